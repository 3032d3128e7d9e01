/- Part of a proof: see Root. -/
import Derived.Test.YthkhdedadacakaaGreatDoorY22
set_option linter.unnecessarySimpa false
set_option linter.unusedSimpArgs false
set_option linter.unusedVariables false
namespace Go.Proofs.YthkhdedadacakaaGreatDoor
open Go.AM
set_option maxRecDepth 4000
def loW (t : Test) : Str := if t.lo then [93] else [91]
def hiW (t : Test) : Str := if t.hi then [91] else [93]
def testW (t : Test) : Str := if t.kind = 1 then wrS t.a 4 else if t.kind = 6 then loW t ++ wrS t.a 4 ++ [46, 46] ++ wrS t.b 4 ++ hiW t else signK t.kind ++ [32] ++ wrS t.a 4
def bigT (t : Test) : Bool := bigX t.a || (decide (t.kind = 6) && bigX t.b)
def sepW : Str := [44, 32]
def joinW (l : List Test) : Str := Lib.join (l.map testW) sepW
def notW (n : Bool) (s : Str) : Str := if n then [110, 111, 116, 40] ++ s ++ [41] else s
def textC (c : Cell) : Str × Int := if rightC c = false then ([], 2) else if c.any = true then ([45], 0) else if c.tests.any bigT = true then ([], 5)
  else if 200 < (notW c.neg (joinW c.tests)).length then ([], 5) else (notW c.neg (joinW c.tests), 0)
def okT2 (t : Test) : Prop := (okX t.a ∧ szS t.a ≤ 2 ^ 30) ∧ okX t.b ∧ szS t.b ≤ 2 ^ 30
def okC2 (c : Cell) : Prop := c.tests.length ≤ 2 ^ 30 ∧ ∀ t ∈ c.tests, okT2 t
theorem okC2.ok {c : Cell} (h : okC2 c) : okC c := ⟨by have := h.1; omega, fun t ht => by
  obtain ⟨⟨a, b⟩, c, d⟩ := h.2 t ht
  exact ⟨⟨a, by omega⟩, c, by omega⟩⟩
theorem level4 {x : Expr} (h : rightX x = true) : levelS x.op < 4 ↔ 8 ≤ x.op ∧ x.op ≤ 16 := by
  obtain ⟨op, v, s, l⟩ := x
  rcases right_parts h with ⟨rfl, _⟩ | ⟨rfl, _⟩ | ⟨rfl, _⟩ | ⟨rfl, _⟩ | ⟨_, _, _, _, _, _, h1, h2, h3, _⟩
  · show levelS 1 < 4 ↔ 8 ≤ (1 : Int) ∧ (1 : Int) ≤ 16; decide
  · show levelS 2 < 4 ↔ 8 ≤ (2 : Int) ∧ (2 : Int) ≤ 16; decide
  · show levelS 3 < 4 ↔ 8 ≤ (3 : Int) ∧ (3 : Int) ≤ 16; decide
  · show levelS 16 < 4 ↔ 8 ≤ (16 : Int) ∧ (16 : Int) ≤ 16; decide
  · show levelS op < 4 ↔ 8 ≤ op ∧ op ≤ 16
    rw [h1]
    generalize findB op = b at *
    simp only [binL, List.mem_cons, List.not_mem_nil, or_false] at h3
    rcases h3 with rfl | rfl | rfl | rfl | rfl | rfl | rfl | rfl | rfl | rfl | rfl | rfl <;> (dsimp only at h2 ⊢; omega)
theorem part_text {x : Expr} (h : partX x = true) : rightX x = true ∧ textX x = if bigX x = true then ([], 5) else (writeX x, 0) := by
  simp only [partX, Bool.and_eq_true, decide_eq_true_eq] at h
  refine ⟨h.1, ?_⟩
  unfold textX
  rw [if_neg (by simp [h.1]), if_neg (by omega)]
theorem small_len {x : Expr} (h : bigX x = false) (lv : Int) : (wrS x lv).length ≤ 202 := by
  simp only [bigX, decide_eq_false_iff_not] at h
  have := parenS_len (levelS x.op, writeX x) lv
  dsimp only at this
  unfold wrS; omega
theorem cell_write (x : Expr) (hp : partX x = true) (hx : okX x) (hz : szS x ≤ 2 ^ 30) : CallF Tryz.prog n_cell_write [eExpr x] (.tup [.str (if bigX x = true then [] else wrS x 4), I (if bigX x = true then 5 else 0)]) := by
  obtain ⟨hr, ht⟩ := part_text hp
  have h1 := syntax_Text x hx hz
  have h4 := level4 hr
  have hsm := fun h => small_len (x := x) h 4
  rw [ht] at h1
  cases hb : bigX x with
  | true =>
    rw [hb] at h1
    simp only [if_true] at h1 ⊢
    rw [eExpr_eq] at h1 ⊢
    refine CallF.of_nil (of_cell_write (by simp) ?_) (by simp)
    unfold b_cell_write WpR
    intro Q hQr hQn hQp
    repeat' first | refine go_ ?_ | refine cf_ h1 ?_ | refine br_ (fun hw => ?_) (fun hw => ?_) <;> try omega | fail
    all_goals exact leafNE rfl rfl
  | false =>
    have hsm := hsm hb
    rw [hb] at h1
    simp only [Bool.false_eq_true, if_false] at h1 ⊢
    by_cases hl : levelS x.op < 4
    · have ho := h4.1 hl
      rw [wr_of_lt hl] at hsm ⊢
      rw [List.length_cons, List.length_append] at hsm
      generalize writeX x = t at *
      rw [eExpr_eq] at h1 ⊢
      refine CallF.of_nil (of_cell_write (by simp) ?_) (by simp)
      unfold b_cell_write WpR
      intro Q hQr hQn hQp
      repeat' first | refine go_ ?_ | refine cf_ h1 ?_ | refine br_ (fun hw => ?_) (fun hw => ?_) <;> try omega | fail
      all_goals first | (refine leafNE ?_ rfl; simp; done) | exact ab_
    · have ho : ¬ (8 ≤ x.op ∧ x.op ≤ 16) := fun h => hl (h4.2 h)
      rw [wr_of_ge hl] at hsm ⊢
      generalize writeX x = t at *
      rw [eExpr_eq] at h1 ⊢
      refine CallF.of_nil (of_cell_write (by simp) ?_) (by simp)
      unfold b_cell_write WpR
      intro Q hQr hQn hQp
      repeat' first | refine go_ ?_ | refine cf_ h1 ?_ | refine br_ (fun hw => ?_) (fun hw => ?_) <;> try omega | fail
      all_goals first | (refine leafNE ?_ rfl; simp; done) | exact ab_
theorem sound_parts {t : Test} (h : soundT t = true) : partX t.a = true ∧ 1 ≤ t.kind ∧ t.kind ≤ 6 ∧ (t.kind = 6 → partX t.b = true) := by
  unfold soundT at h
  split at h
  · rename_i h6
    simp only [Bool.and_eq_true] at h
    exact ⟨h.1, by omega, by omega, fun _ => h.2⟩
  · rename_i h6
    simp only [Bool.and_eq_true, decide_eq_true_eq] at h
    exact ⟨h.1.1.1.2, h.1.1.1.1.1, by omega, fun h => absurd h h6⟩
theorem testW_len {t : Test} (h : bigT t = false) : (testW t).length ≤ 420 := by
  simp only [bigT, Bool.or_eq_false_iff, Bool.and_eq_false_iff, decide_eq_false_iff_not] at h
  have ha := small_len h.1 4
  have hs : (signK t.kind).length ≤ 2 := by unfold signK; split; simp; split; simp; split; simp; split <;> simp
  unfold testW
  split
  · omega
  split
  · rename_i h6
    have hb := small_len (x := t.b) (by rcases h.2 with h | h; exact absurd h6 h; exact h) 4
    have l1 : (loW t).length = 1 := by unfold loW; split <;> rfl
    have l2 : (hiW t).length = 1 := by unfold hiW; split <;> rfl
    simp only [List.length_append, List.length_cons, List.length_nil]; omega
  · simp only [List.length_append, List.length_cons, List.length_nil]; omega
set_option maxHeartbeats 1000000 in
theorem cell_text (t : Test) (hs : soundT t = true) (h : okT2 t) : CallF Tryz.prog n_cell_text [eTest t] (.tup [.str (if bigT t = true then [] else testW t), I (if bigT t = true then 5 else 0)]) := by
  obtain ⟨p1, k1, k6, p2⟩ := sound_parts hs
  have wa := cell_write t.a p1 h.1.1 h.1.2
  have hsg := cell_sign t.kind
  have la := fun hb => small_len (x := t.a) hb 4
  have lb := fun hb => small_len (x := t.b) hb 4
  by_cases h6 : t.kind = 6
  · have wb := cell_write t.b (p2 h6) h.2.1 h.2.2
    have hW : testW t = loW t ++ wrS t.a 4 ++ [46, 46] ++ wrS t.b 4 ++ hiW t := by unfold testW; rw [if_neg (by omega), if_pos h6]
    have hB : bigT t = (bigX t.a || bigX t.b) := by unfold bigT; rw [decide_eq_true h6, Bool.true_and]
    rw [hW, hB]
    unfold loW hiW
    clear hW hB p1 p2 hs
    generalize wrS t.a 4 = ta at *
    generalize wrS t.b 4 = tb at *
    generalize bigX t.a = ba at *
    generalize bigX t.b = bb at *
    rw [eExpr_eq] at wa wb
    simp only [eTest, eExprs]
    cases ba <;> simp only [Bool.false_eq_true, if_false, if_true, Bool.true_or, Bool.false_or] at wa la ⊢
    · have la := la trivial
      cases bb <;> simp only [Bool.false_eq_true, if_false, if_true] at wb lb ⊢
      · have lb := lb trivial
        refine CallF.of_nil (of_cell_text (by simp) ?_) (by simp)
        unfold b_cell_text WpR
        intro Q hQr hQn hQp
        repeat' first | refine go_ ?_ | refine cf_ wa ?_ | refine cf_ wb ?_ | refine br_ (fun hw => ?_) (fun hw => ?_) <;> try omega | fail
        all_goals first | (refine leafNE ?_ rfl; simp_all; done) | exact ab_
      · refine CallF.of_nil (of_cell_text (by simp) ?_) (by simp)
        unfold b_cell_text WpR
        intro Q hQr hQn hQp
        repeat' first | refine go_ ?_ | refine cf_ wa ?_ | refine cf_ wb ?_ | refine br_ (fun hw => ?_) (fun hw => ?_) <;> try omega | fail
        all_goals first | (refine leafNE ?_ rfl; simp_all; done) | exact ab_
    · refine CallF.of_nil (of_cell_text (by simp) ?_) (by simp)
      unfold b_cell_text WpR
      intro Q hQr hQn hQp
      repeat' first | refine go_ ?_ | refine cf_ wa ?_ | refine br_ (fun hw => ?_) (fun hw => ?_) <;> try omega | fail
      all_goals first | (refine leafNE ?_ rfl; simp_all; done) | exact ab_
  · have hW : testW t = if t.kind = 1 then wrS t.a 4 else signK t.kind ++ [32] ++ wrS t.a 4 := by unfold testW; rw [if_neg h6]
    have hB : bigT t = bigX t.a := by unfold bigT; rw [decide_eq_false h6, Bool.false_and, Bool.or_false]
    have hsl : (signK t.kind).length ≤ 2 := by unfold signK; split; simp; split; simp; split; simp; split <;> simp
    rw [hW, hB]
    clear hW hB p1 p2 hs
    generalize wrS t.a 4 = ta at *
    generalize bigX t.a = ba at *
    generalize signK t.kind = sg at *
    rw [eExpr_eq] at wa
    simp only [eTest, eExprs]
    cases ba <;> simp only [Bool.false_eq_true, if_false, if_true] at wa la ⊢
    · have la := la trivial
      refine CallF.of_nil (of_cell_text (by simp) ?_) (by simp)
      unfold b_cell_text WpR
      intro Q hQr hQn hQp
      repeat' first | refine go_ ?_ | refine cf_ wa ?_ | refine cf_ hsg ?_ | refine br_ (fun hw => ?_) (fun hw => ?_) <;> try omega | fail
      all_goals first | (refine leafNE ?_ rfl; simp_all; done) | exact ab_
    · refine CallF.of_nil (of_cell_text (by simp) ?_) (by simp)
      unfold b_cell_text WpR
      intro Q hQr hQn hQp
      repeat' first | refine go_ ?_ | refine cf_ wa ?_ | refine cf_ hsg ?_ | refine br_ (fun hw => ?_) (fun hw => ?_) <;> try omega | fail
      all_goals first | (refine leafNE ?_ rfl; simp_all; done) | exact ab_
theorem joinTail_len {sep : Str} {B : Nat} : ∀ (r : List Str), (∀ x ∈ r, x.length ≤ B) → (Lib.joinTail sep r).length ≤ r.length * (B + sep.length)
  | [], _ => by simp [Lib.joinTail]
  | x :: r, h => by
    have h1 := h x (by simp)
    have h2 := joinTail_len (sep := sep) r (fun y hy => h y (List.mem_cons_of_mem _ hy))
    have e : Lib.joinTail sep (x :: r) = sep ++ x ++ Lib.joinTail sep r := by simp [Lib.joinTail]
    rw [e, List.length_append, List.length_append, List.length_cons, Nat.add_mul]
    omega
theorem join_len {sep : Str} {B : Nat} (l : List Str) (h : ∀ x ∈ l, x.length ≤ B) : (Lib.join l sep).length ≤ l.length * (B + sep.length) := by
  cases l with
  | nil => simp [Lib.join_nil]
  | cons x r =>
    have h1 := h x (by simp)
    have h2 := joinTail_len (sep := sep) r (fun y hy => h y (List.mem_cons_of_mem _ hy))
    rw [Lib.join_cons, List.length_append, List.length_cons, Nat.add_mul]
    omega
theorem W_take {l : List Test} {i : Nat} (h : i < l.length) : (l.map testW).take (i + 1) = (l.map testW).take i ++ [testW (l.getD i default)] := by
  rw [List.take_succ_eq_append_getElem (by simpa using h)]; simp [h]
theorem W_small {l : List Test} {n : Nat} (h : ∀ k, k < n → k < l.length → bigT (l.getD k default) = false) : ∀ x ∈ (l.map testW).take n, x.length ≤ 420 := by
  intro x hx
  obtain ⟨k, hk, rfl⟩ := List.getElem_of_mem hx
  simp only [List.length_take, List.length_map] at hk
  have := testW_len (h k (by omega) (by omega))
  have e : l.getD k default = l[k]'(by omega) := by simp [List.getD_eq_getElem?_getD, show k < l.length by omega]
  rw [e] at this
  simpa using this
set_option maxHeartbeats 2000000 in
theorem cell_Text (c : Cell) (h : okC2 c) : CallF Tryz.prog n_cell_Text [eCell c] (.tup [.str (textC c).1, I (textC c).2]) := by
  have hck := cell_Check c h.ok
  have hT : textC c = if rightC c = false then ([], 2) else if c.any = true then ([45], 0) else if c.tests.any bigT = true then ([], 5)
    else if 200 < (notW c.neg (joinW c.tests)).length then ([], 5) else (notW c.neg (joinW c.tests), 0) := rfl
  rw [hT]
  clear hT
  cases hr : rightC c with
  | false =>
    rw [hr] at hck
    simp only [errB, Bool.false_eq_true, if_false] at hck
    rw [if_pos rfl]
    simp only [eCell, eTests] at hck ⊢
    refine CallF.of_nil (of_cell_Text (by simp) ?_) (by simp)
    unfold b_cell_Text WpR
    intro Q hQr hQn hQp
    repeat' first | refine go_ ?_ | refine cf_ hck ?_ | refine br_ (fun hw => ?_) (fun hw => ?_) <;> try omega | fail
    all_goals exact leafNE rfl rfl
  | true =>
    rw [hr] at hck
    simp only [errB, if_true] at hck
    rw [if_neg (by simp)]
    cases ha : c.any with
    | true =>
      rw [if_pos rfl]
      simp only [eCell, eTests, ha] at hck ⊢
      refine CallF.of_nil (of_cell_Text (by simp) ?_) (by simp)
      unfold b_cell_Text WpR
      intro Q hQr hQn hQp
      repeat' first | refine go_ ?_ | refine cf_ hck ?_ | refine br_ (fun hw => ?_) (fun hw => ?_) <;> try omega | fail
      all_goals exact leafNE rfl rfl
    | false =>
      rw [if_neg (by simp)]
      have hr2 := hr
      unfold rightC at hr2
      rw [if_neg (by simp [ha])] at hr2
      simp only [Bool.and_eq_true, decide_eq_true_eq, Bool.not_eq_true', List.any_eq_false] at hr2
      obtain ⟨⟨l1, l12⟩, hsd⟩ := hr2
      have hsd : ∀ t ∈ c.tests, soundT t = true := fun t ht => by have := hsd t ht; simpa using this
      simp only [eCell, eTests, ha] at hck ⊢
      refine CallF.of_nil (of_cell_Text (by simp) ?_) (by simp)
      unfold b_cell_Text WpR
      intro Q hQr hQn hQp
      repeat' first | refine go_ ?_ | refine cf_ hck ?_ | refine br_ (fun hw => ?_) (fun hw => ?_) <;> try omega | fail
      with_reducible refine loop_i [2, 3, 5, 7, 8, 9, 21, 22, 23, 24, 25, 26, 27, 28, 29, 30, 31, 32, 33, 34, 35, 36, 37] (fun q : Nat × List AObj => [(21, I q.1), (5, .own E1 1 q.1 0 q.1)]) (fun q => .cells [.bool false, .bool c.neg, .lst false ES (c.tests.map eTest)] :: .vec E1 (((c.tests.map testW).take q.1).map eStr) :: q.2) (fun q => q.1 ≤ c.tests.length ∧ ∀ k, k < q.1 → bigT (c.tests.getD k default) = false) (fun q => c.tests.length - q.1) (0, []) ?_ ?_ ?_ ?_
      · simp
      · simp
      · exact at_
      rintro ⟨i, τ⟩ r ⟨h1, h2⟩
      dsimp only at h1 h2
      by_cases hi : i < c.tests.length
      · have hmem := getD_mem hi
        have ht := cell_text _ (hsd _ hmem) (h.2 _ hmem)
        have hwt := W_take hi
        have hbs := fun he => before_succ h2 (i := i) he
        have hany := fun hb => any_at (p := bigT) hi hb
        have hwl := fun hb => testW_len (t := c.tests.getD i default) hb
        have hvl : ((c.tests.map testW).take i).length = i := by rw [List.length_take, List.length_map]; omega
        generalize hVV : (c.tests.map testW).take i = V at *
        obtain ⟨t, hteq⟩ : ∃ t, c.tests.getD i default = t := ⟨_, rfl⟩
        rw [hteq] at ht hwt hbs hany hwl
        simp only [eTest, eExprs] at ht
        generalize testW t = tw at *
        cases hb : bigT t with
        | true =>
          rw [hb] at ht
          simp only [if_true] at ht
          have hany := hany hb
          simp only [hany, if_true] at hQr hQn hQp
          repeat' first | simp (disch := omega) only [go_sem, hQr, hQn, hQp, wrapK_i64, wrapK_u8, wrapK_u64, Nat.reduceAdd, Nat.reduceBEq, ↓reduceIte, hteq] | refine go_ ?_ | refine cf_ ht ?_ | refine br_ (fun hw => ?_) (fun hw => ?_) <;> try omega | fail
          all_goals first | exact leafNE rfl rfl | exact ab_
        | false =>
          rw [hb] at ht
          simp only [Bool.false_eq_true, if_false] at ht
          have hbs := hbs hb
          repeat' first | simp (disch := omega) only [go_sem, hQr, hQn, hQp, wrapK_i64, wrapK_u8, wrapK_u64, Nat.reduceAdd, Nat.reduceBEq, ↓reduceIte, hteq, hvl] | refine go_ ?_ | refine cf_ ht ?_ | refine br_ (fun hw => ?_) (fun hw => ?_) <;> try omega | fail
          all_goals first
            | (refine ⟨(i + 1, τ ++ [.cells [I t.kind, I t.a.op, I t.a.v.kind, I t.a.v.n, .str t.a.v.s, .str t.a.s, .lst false EX (t.a.l.map eExpr), I t.b.op, I t.b.v.kind, I t.b.v.n, .str t.b.v.s, .str t.b.s, .lst false EX (t.b.l.map eExpr), .bool t.lo, .bool t.hi]]), ?_, ?_, ?_, ou_, at_⟩ <;> (try dsimp only)
               · exact ⟨by omega, hbs⟩
               · omega
               all_goals (rw [hwt]; simp [eStr]))
            | exact ab_
      · have hti : (c.tests.map testW).take i = c.tests.map testW := List.take_of_length_le (by simp; omega)
        have hil : i = c.tests.length := by omega
        have hnb : c.tests.any bigT = false := any_non (p := bigT) (fun k hk => h2 k (by omega))
        have hws := W_small (l := c.tests) (n := i) (fun k hk _ => h2 k hk)
        rw [hti] at hws ⊢
        have hjl := join_len (sep := sepW) _ hws
        rw [List.length_map] at hjl
        have hj := strings_Join (c.tests.map testW) sepW (by simp; omega) (by simp only [sepW, List.length_cons, List.length_nil] at hjl; have : c.tests.length * (420 + (0 + 1 + 1)) ≤ 12 * 422 := Nat.mul_le_mul l12 (Nat.le_refl _); unfold sepW; omega)
        have hjl2 : (Lib.join (c.tests.map testW) sepW).length ≤ 12 * 422 := by
          simp only [sepW, List.length_cons, List.length_nil] at hjl
          have : c.tests.length * (420 + (0 + 1 + 1)) ≤ 12 * 422 := Nat.mul_le_mul l12 (Nat.le_refl _)
          unfold sepW; omega
        have hlw : (c.tests.map testW).length = i := by rw [List.length_map]; omega
        simp only [hnb, Bool.false_eq_true, if_false, joinW] at hQr hQn hQp
        clear hjl
        obtain ⟨J, hJ⟩ : ∃ J, Lib.join (c.tests.map testW) sepW = J := ⟨_, rfl⟩
        rw [hJ] at hj hjl2
        simp only [hJ] at hQr hQn hQp
        clear hJ
        simp only [eStrs, sepW] at hj
        have hvw : ∀ σ : Store, σ[1]? = some (.vec E1 ((c.tests.map testW).map eStr)) → ViewL σ [.own E1 1 i 0 i, .str [44, 32]] [.lst false E1 ((c.tests.map testW).map eStr), .str [44, 32]] := fun σ hσ => .cons (View.vec hσ (by rw [List.length_map, hlw]) (by rw [List.length_map, hlw]) (purL_s _)) (.cons (.refl _ rfl) (.nil _))
        cases hn : c.neg with
        | true =>
          simp only [hn, notW, if_true] at hQr hQn hQp
          by_cases hbig : 200 < ([110, 111, 116, 40] ++ J ++ [41] : Str).length
          · simp only [if_pos hbig] at hQr hQn hQp
            simp only [List.length_append, List.length_cons, List.length_nil] at hbig
            repeat' first | refine go_ ?_ | (with_reducible refine callL_v hj (hvw _ rfl) rfl ?_) | refine br_ (fun hw => ?_) (fun hw => ?_) <;> try omega | fail
            all_goals first | exact leafNE rfl rfl | exact ab_
          · simp only [if_neg hbig] at hQr hQn hQp
            simp only [List.length_append, List.length_cons, List.length_nil] at hbig
            repeat' first | refine go_ ?_ | (with_reducible refine callL_v hj (hvw _ rfl) rfl ?_) | refine br_ (fun hw => ?_) (fun hw => ?_) <;> try omega | fail
            all_goals first | (refine leafNE ?_ rfl; simp; done) | exact ab_
        | false =>
          simp only [hn, notW, Bool.false_eq_true, if_false] at hQr hQn hQp
          by_cases hbig : 200 < J.length
          · simp only [if_pos hbig] at hQr hQn hQp
            repeat' first | refine go_ ?_ | (with_reducible refine callL_v hj (hvw _ rfl) rfl ?_) | refine br_ (fun hw => ?_) (fun hw => ?_) <;> try omega | fail
            all_goals first | exact leafNE rfl rfl | exact ab_
          · simp only [if_neg hbig] at hQr hQn hQp
            repeat' first | refine go_ ?_ | (with_reducible refine callL_v hj (hvw _ rfl) rfl ?_) | refine br_ (fun hw => ?_) (fun hw => ?_) <;> try omega | fail
            all_goals first | exact leafNE rfl rfl | exact ab_
theorem slices_ContainsFunc_Column (fn : FuncId) (cap : List AV) (hcap : AV.purL cap = true) (p : Col → Bool) (l : List Col) (h : ∀ k, k < l.length → CallF Tryz.prog fn (eCol (l.getD k default) :: cap) (.bool (p (l.getD k default)))) (hl : l.length ≤ 2 ^ 62) :
    CallF Tryz.prog n_slices_ContainsFunc_Column [eCols l, .fn (.func fn) [] cap] (.bool (l.any p)) := by
  refine CallF.of_nil (of_slices_ContainsFunc_Column (by simp) ?_) (by simp [AV.pur, AV.purL, hcap, pur_eCols])
  unfold b_slices_ContainsFunc_Column WpR
  intro Q hQr hQn hQp
  have hc := slices_IndexFunc_Column fn cap hcap p l h hl
  simp only [eCols] at hc
  repeat' first | refine go_ ?_ | refine cf_ hc ?_ | refine br_ (fun hw => ?_) (fun hw => ?_) <;> try omega | fail
  all_goals refine leafE ?_ rfl
  all_goals rw [← idxF_any]
theorem slices_EqualFunc_Column (fn : FuncId) (cap : List AV) (hcap : AV.purL cap = true) (p : Col → Col → Bool) (l m : List Col)
    (h : ∀ k, k < l.length → k < m.length → CallF Tryz.prog fn (eCol (l.getD k default) :: eCol (m.getD k default) :: cap) (.bool (p (l.getD k default) (m.getD k default)))) (hl : l.length ≤ 2 ^ 62) (hm : m.length ≤ 2 ^ 62) :
    CallF Tryz.prog n_slices_EqualFunc_Column [eCols l, eCols m, .fn (.func fn) [] cap] (.bool (eqL p l m)) := by
  refine CallF.of_nil (of_slices_EqualFunc_Column (by simp) ?_) (by simp [AV.pur, AV.purL, hcap, pur_eCols])
  unfold b_slices_EqualFunc_Column WpR
  intro Q hQr hQn hQp
  repeat' first | refine go_ ?_ | refine br_ (fun hw => ?_) (fun hw => ?_) <;> try omega | fail
  · refine leafE ?_ rfl
    rw [eqL_len (by omega)]
  have hlm : l.length = m.length := by omega
  with_reducible refine loop_i [6, 7, 8, 9, 17, 18, 19, 20, 21, 22, 23, 24, 25, 26, 27, 28, 29, 30, 31] (fun p : Nat × List AObj => [(17, I p.1)]) (fun p => p.2) (fun q => q.1 ≤ l.length ∧ ∀ k, k < q.1 → p (l.getD k default) (m.getD k default) = true) (fun p => l.length - p.1) (0, []) ?_ ?_ ?_ ?_
  · simp
  · rfl
  · exact at_
  rintro ⟨i, τ⟩ r ⟨h1, h2⟩
  dsimp only at h1 h2
  by_cases hi : i < l.length
  · have hy := h i hi (by omega)
    simp only [eTest, eCol, eRule, eLine, eCell, eExprs, eTests, eVals, eStrs, eCells] at hy
    repeat' first | refine go_ ?_ | refine cf_ hy ?_ | refine br_ (fun hw => ?_) (fun hw => ?_) <;> try omega | fail
    · refine leafE ?_ rfl
      rw [eqL_at hi hw (by omega)]
    · refine ⟨(i + 1, τ ++ [.cells [.str (l.getD i default).name, I (l.getD i default).kind, .lst false EV ((l.getD i default).order.map eVal)]] ++ [.cells [.str (m.getD i default).name, I (m.getD i default).kind, .lst false EV ((m.getD i default).order.map eVal)]]), ?_, ?_, by first | rfl | (simp [go_sem]; done), ou_, at_⟩ <;> (try dsimp only)
      · exact ⟨by omega, before_succ h2 hw⟩
      · omega
  · repeat' first | refine go_ ?_ | refine br_ (fun hw => ?_) (fun hw => ?_) <;> try omega | fail
    refine leafE ?_ rfl
    rw [eqL_non hlm (fun k hk => h2 k (by omega))]
theorem slices_EqualFunc_Rule (fn : FuncId) (cap : List AV) (hcap : AV.purL cap = true) (p : Rule → Rule → Bool) (l m : List Rule)
    (h : ∀ k, k < l.length → k < m.length → CallF Tryz.prog fn (eRule (l.getD k default) :: eRule (m.getD k default) :: cap) (.bool (p (l.getD k default) (m.getD k default)))) (hl : l.length ≤ 2 ^ 62) (hm : m.length ≤ 2 ^ 62) :
    CallF Tryz.prog n_slices_EqualFunc_Rule [eRules l, eRules m, .fn (.func fn) [] cap] (.bool (eqL p l m)) := by
  refine CallF.of_nil (of_slices_EqualFunc_Rule (by simp) ?_) (by simp [AV.pur, AV.purL, hcap, pur_eRules])
  unfold b_slices_EqualFunc_Rule WpR
  intro Q hQr hQn hQp
  repeat' first | refine go_ ?_ | refine br_ (fun hw => ?_) (fun hw => ?_) <;> try omega | fail
  · refine leafE ?_ rfl
    rw [eqL_len (by omega)]
  have hlm : l.length = m.length := by omega
  with_reducible refine loop_i [6, 7, 8, 9, 17, 18, 19, 20, 21, 22, 23, 24, 25, 26, 27, 28, 29, 30, 31] (fun p : Nat × List AObj => [(17, I p.1)]) (fun p => p.2) (fun q => q.1 ≤ l.length ∧ ∀ k, k < q.1 → p (l.getD k default) (m.getD k default) = true) (fun p => l.length - p.1) (0, []) ?_ ?_ ?_ ?_
  · simp
  · rfl
  · exact at_
  rintro ⟨i, τ⟩ r ⟨h1, h2⟩
  dsimp only at h1 h2
  by_cases hi : i < l.length
  · have hy := h i hi (by omega)
    simp only [eTest, eCol, eRule, eLine, eCell, eExprs, eTests, eVals, eStrs, eCells] at hy
    repeat' first | refine go_ ?_ | refine cf_ hy ?_ | refine br_ (fun hw => ?_) (fun hw => ?_) <;> try omega | fail
    · refine leafE ?_ rfl
      rw [eqL_at hi hw (by omega)]
    · refine ⟨(i + 1, τ ++ [.cells [.lst false E1 ((l.getD i default).cells.map eStr), .lst false E1 ((l.getD i default).outs.map eStr)]] ++ [.cells [.lst false E1 ((m.getD i default).cells.map eStr), .lst false E1 ((m.getD i default).outs.map eStr)]]), ?_, ?_, by first | rfl | (simp [go_sem]; done), ou_, at_⟩ <;> (try dsimp only)
      · exact ⟨by omega, before_succ h2 hw⟩
      · omega
  · repeat' first | refine go_ ?_ | refine br_ (fun hw => ?_) (fun hw => ?_) <;> try omega | fail
    refine leafE ?_ rfl
    rw [eqL_non hlm (fun k hk => h2 k (by omega))]
theorem slices_EqualFunc_Cell (fn : FuncId) (cap : List AV) (hcap : AV.purL cap = true) (p : Cell → Cell → Bool) (l m : List Cell)
    (h : ∀ k, k < l.length → k < m.length → CallF Tryz.prog fn (eCell (l.getD k default) :: eCell (m.getD k default) :: cap) (.bool (p (l.getD k default) (m.getD k default)))) (hl : l.length ≤ 2 ^ 62) (hm : m.length ≤ 2 ^ 62) :
    CallF Tryz.prog n_slices_EqualFunc_Cell [eCells l, eCells m, .fn (.func fn) [] cap] (.bool (eqL p l m)) := by
  refine CallF.of_nil (of_slices_EqualFunc_Cell (by simp) ?_) (by simp [AV.pur, AV.purL, hcap, pur_eCells])
  unfold b_slices_EqualFunc_Cell WpR
  intro Q hQr hQn hQp
  repeat' first | refine go_ ?_ | refine br_ (fun hw => ?_) (fun hw => ?_) <;> try omega | fail
  · refine leafE ?_ rfl
    rw [eqL_len (by omega)]
  have hlm : l.length = m.length := by omega
  with_reducible refine loop_i [6, 7, 8, 9, 17, 18, 19, 20, 21, 22, 23, 24, 25, 26, 27, 28, 29, 30, 31] (fun p : Nat × List AObj => [(17, I p.1)]) (fun p => p.2) (fun q => q.1 ≤ l.length ∧ ∀ k, k < q.1 → p (l.getD k default) (m.getD k default) = true) (fun p => l.length - p.1) (0, []) ?_ ?_ ?_ ?_
  · simp
  · rfl
  · exact at_
  rintro ⟨i, τ⟩ r ⟨h1, h2⟩
  dsimp only at h1 h2
  by_cases hi : i < l.length
  · have hy := h i hi (by omega)
    simp only [eTest, eCol, eRule, eLine, eCell, eExprs, eTests, eVals, eStrs, eCells] at hy
    repeat' first | refine go_ ?_ | refine cf_ hy ?_ | refine br_ (fun hw => ?_) (fun hw => ?_) <;> try omega | fail
    · refine leafE ?_ rfl
      rw [eqL_at hi hw (by omega)]
    · refine ⟨(i + 1, τ ++ [.cells [.bool (l.getD i default).any, .bool (l.getD i default).neg, .lst false ES ((l.getD i default).tests.map eTest)]] ++ [.cells [.bool (m.getD i default).any, .bool (m.getD i default).neg, .lst false ES ((m.getD i default).tests.map eTest)]]), ?_, ?_, by first | rfl | (simp [go_sem]; done), ou_, at_⟩ <;> (try dsimp only)
      · exact ⟨by omega, before_succ h2 hw⟩
      · omega
  · repeat' first | refine go_ ?_ | refine br_ (fun hw => ?_) (fun hw => ?_) <;> try omega | fail
    refine leafE ?_ rfl
    rw [eqL_non hlm (fun k hk => h2 k (by omega))]
theorem slices_EqualFunc_Line (fn : FuncId) (cap : List AV) (hcap : AV.purL cap = true) (p : Line → Line → Bool) (l m : List Line)
    (h : ∀ k, k < l.length → k < m.length → CallF Tryz.prog fn (eLine (l.getD k default) :: eLine (m.getD k default) :: cap) (.bool (p (l.getD k default) (m.getD k default)))) (hl : l.length ≤ 2 ^ 62) (hm : m.length ≤ 2 ^ 62) :
    CallF Tryz.prog n_slices_EqualFunc_Line [eLines l, eLines m, .fn (.func fn) [] cap] (.bool (eqL p l m)) := by
  refine CallF.of_nil (of_slices_EqualFunc_Line (by simp) ?_) (by simp [AV.pur, AV.purL, hcap, pur_eLines])
  unfold b_slices_EqualFunc_Line WpR
  intro Q hQr hQn hQp
  repeat' first | refine go_ ?_ | refine br_ (fun hw => ?_) (fun hw => ?_) <;> try omega | fail
  · refine leafE ?_ rfl
    rw [eqL_len (by omega)]
  have hlm : l.length = m.length := by omega
  with_reducible refine loop_i [6, 7, 8, 9, 17, 18, 19, 20, 21, 22, 23, 24, 25, 26, 27, 28, 29, 30, 31] (fun p : Nat × List AObj => [(17, I p.1)]) (fun p => p.2) (fun q => q.1 ≤ l.length ∧ ∀ k, k < q.1 → p (l.getD k default) (m.getD k default) = true) (fun p => l.length - p.1) (0, []) ?_ ?_ ?_ ?_
  · simp
  · rfl
  · exact at_
  rintro ⟨i, τ⟩ r ⟨h1, h2⟩
  dsimp only at h1 h2
  by_cases hi : i < l.length
  · have hy := h i hi (by omega)
    simp only [eTest, eCol, eRule, eLine, eCell, eExprs, eTests, eVals, eStrs, eCells] at hy
    repeat' first | refine go_ ?_ | refine cf_ hy ?_ | refine br_ (fun hw => ?_) (fun hw => ?_) <;> try omega | fail
    · refine leafE ?_ rfl
      rw [eqL_at hi hw (by omega)]
    · refine ⟨(i + 1, τ ++ [.cells [.lst false EC ((l.getD i default).cells.map eCell), .lst false EX ((l.getD i default).outs.map eExpr)]] ++ [.cells [.lst false EC ((m.getD i default).cells.map eCell), .lst false EX ((m.getD i default).outs.map eExpr)]]), ?_, ?_, by first | rfl | (simp [go_sem]; done), ou_, at_⟩ <;> (try dsimp only)
      · exact ⟨by omega, before_succ h2 hw⟩
      · omega
  · repeat' first | refine go_ ?_ | refine br_ (fun hw => ?_) (fun hw => ?_) <;> try omega | fail
    refine leafE ?_ rfl
    rw [eqL_non hlm (fun k hk => h2 k (by omega))]
theorem val_beq (v u : Val) : (v == u) = ((v.kind == u.kind) && (v.n == u.n) && (v.s == u.s)) := by
  obtain ⟨a, b, c⟩ := v
  obtain ⟨d, e, f⟩ := u
  rw [Bool.eq_iff_iff]; simp [and_assoc]
theorem slices_Index_Value (l : List Val) (v : Val) (hl : l.length ≤ 2 ^ 60) : CallF Tryz.prog n_slices_Index_Value [eVals l, eVal v] (I (idxF (fun x => x == v) l)) := by
  simp only [eVals, eVal]
  refine CallF.of_nil (of_slices_Index_Value (by simp) ?_) (by simp)
  unfold b_slices_Index_Value WpR
  intro Q hQr hQn hQp
  repeat' first | refine go_ ?_ | refine br_ (fun hw => ?_) (fun hw => ?_) <;> try omega | fail
  with_reducible refine loop_i [4, 5, 8, 9, 10, 11, 12, 13, 14, 15, 16, 17, 18] (fun i : Nat => [(8, I i)]) (fun _ => [.cells [I v.kind, I v.n, .str v.s]]) (fun i => i ≤ l.length ∧ ∀ k, k < i → (l.getD k default == v) = false) (fun i => l.length - i) (0) ?_ ?_ ?_ ?_
  · simp
  · rfl
  · exact at_
  rintro i r ⟨h1, h2⟩
  by_cases hi : i < l.length
  · obtain ⟨u, hu⟩ : ∃ u, l.getD i default = u := ⟨_, rfl⟩
    have hb := val_beq u v
    repeat' first | simp (disch := omega) only [go_sem, hQr, hQn, hQp, wrapK_i64, wrapK_u8, wrapK_u64, Nat.reduceAdd, Nat.reduceBEq, ↓reduceIte, hu] | refine go_ ?_ | refine br_ (fun hw => ?_) (fun hw => ?_) <;> try omega | fail
    · refine leafE ?_ rfl
      refine congrArg I ?_
      exact (idxF_at (p := fun x => x == v) hi h2 (by rw [hu, hb]; simp_all)).symm
    · refine ⟨i + 1, ?_, ?_, by first | rfl | (simp [go_sem]; done), ou_, at_⟩ <;> (try dsimp only)
      · exact ⟨by omega, before_succ h2 (by rw [hu, hb, ← Bool.not_eq_true]; simp only [← Bool.not_eq_true, Bool.and_eq_true, beq_iff_eq, not_and] at hw ⊢; intro c; exact fun d => hw ⟨c.1.symm, c.2.symm⟩ d.symm)⟩
      · omega
  · repeat' first | refine go_ ?_ | refine br_ (fun hw => ?_) (fun hw => ?_) <;> try omega | fail
    refine leafE ?_ rfl
    refine congrArg I ?_
    exact (idxF_none (p := fun x => x == v) fun k hk => h2 k (by omega)).symm
theorem slices_Equal_Value (l m : List Val) (hl : l.length ≤ 2 ^ 60) (hm : m.length ≤ 2 ^ 60) : CallF Tryz.prog n_slices_Equal_Value [eVals l, eVals m] (.bool (eqL (fun a b => a == b) l m)) := by
  simp only [eVals]
  refine CallF.of_nil (of_slices_Equal_Value (by simp) ?_) (by simp)
  unfold b_slices_Equal_Value WpR
  intro Q hQr hQn hQp
  repeat' first | refine go_ ?_ | refine br_ (fun hw => ?_) (fun hw => ?_) <;> try omega | fail
  · refine leafE ?_ rfl
    rw [eqL_len (by omega)]
  have hlm : l.length = m.length := by omega
  with_reducible refine loop_i [4, 5, 13, 14, 15, 16, 17, 18, 19, 20, 21, 22, 23, 24, 25] (fun i : Nat => [(13, I i)]) (fun _ => []) (fun i => i ≤ l.length ∧ ∀ k, k < i → (l.getD k default == m.getD k default) = true) (fun i => l.length - i) (0) ?_ ?_ ?_ ?_
  · simp
  · rfl
  · exact at_
  rintro i r ⟨h1, h2⟩
  by_cases hi : i < l.length
  · have hb := val_beq (l.getD i default) (m.getD i default)
    repeat' first | refine go_ ?_ | refine br_ (fun hw => ?_) (fun hw => ?_) <;> try omega | fail
    · refine leafE ?_ rfl
      rw [eqL_at (p := fun a b => a == b) hi (by rw [hb, ← Bool.not_eq_true]; simp_all) (by omega)]
    · refine ⟨i + 1, ?_, ?_, by first | rfl | (simp [go_sem]; done), ou_, at_⟩ <;> (try dsimp only)
      · exact ⟨by omega, before_succ h2 (by rw [hb]; simp_all)⟩
      · omega
  · repeat' first | refine go_ ?_ | refine br_ (fun hw => ?_) (fun hw => ?_) <;> try omega | fail
    refine leafE ?_ rfl
    rw [eqL_non (p := fun a b => a == b) hlm (fun k hk => h2 k (by omega))]
theorem slices_Equal_string (l m : List Str) (hl : l.length ≤ 2 ^ 60) (hm : m.length ≤ 2 ^ 60) : CallF Tryz.prog n_slices_Equal_string [eStrs l, eStrs m] (.bool (eqL (fun a b => a == b) l m)) := by
  simp only [eStrs]
  refine CallF.of_nil (of_slices_Equal_string (by simp) ?_) (by simp)
  unfold b_slices_Equal_string WpR
  intro Q hQr hQn hQp
  repeat' first | refine go_ ?_ | refine br_ (fun hw => ?_) (fun hw => ?_) <;> try omega | fail
  · refine leafE ?_ rfl
    rw [eqL_len (by omega)]
  have hlm : l.length = m.length := by omega
  with_reducible refine loop_i [4, 5, 13, 14, 15, 16, 17, 18, 19, 20, 21, 22, 23, 24, 25] (fun i : Nat => [(13, I i)]) (fun _ => []) (fun i => i ≤ l.length ∧ ∀ k, k < i → (l.getD k default == m.getD k default) = true) (fun i => l.length - i) (0) ?_ ?_ ?_ ?_
  · simp
  · rfl
  · exact at_
  rintro i r ⟨h1, h2⟩
  by_cases hi : i < l.length
  · repeat' first | refine go_ ?_ | refine br_ (fun hw => ?_) (fun hw => ?_) <;> try omega | fail
    · refine leafE ?_ rfl
      rw [eqL_at (p := fun a b => a == b) hi (by rw [← Bool.not_eq_true]; simp_all) (by omega)]
    · refine ⟨i + 1, ?_, ?_, by first | rfl | (simp [go_sem]; done), ou_, at_⟩ <;> (try dsimp only)
      · exact ⟨by omega, before_succ h2 (by simp_all)⟩
      · omega
  · repeat' first | refine go_ ?_ | refine br_ (fun hw => ?_) (fun hw => ?_) <;> try omega | fail
    refine leafE ?_ rfl
    rw [eqL_non (p := fun a b => a == b) hlm (fun k hk => h2 k (by omega))]
theorem ref01_SameTexts (l m : List Str) (hl : l.length ≤ 2 ^ 60) (hm : m.length ≤ 2 ^ 60) : CallF Tryz.prog n_ref01_SameTexts [eStrs l, eStrs m] (.bool (eqL (fun a b => a == b) l m)) := by
  simp only [eStrs]
  refine CallF.of_nil (of_ref01_SameTexts (by simp) ?_) (by simp)
  unfold b_ref01_SameTexts WpR
  intro Q hQr hQn hQp
  repeat' first | refine go_ ?_ | refine br_ (fun hw => ?_) (fun hw => ?_) <;> try omega | fail
  · refine leafE ?_ rfl
    rw [eqL_len (by omega)]
  have hlm : l.length = m.length := by omega
  with_reducible refine loop_i [4, 5, 11, 12, 13, 14, 15, 16, 17, 18, 19, 20, 21, 22, 23, 24, 25] (fun i : Nat => [(5, I i)]) (fun _ => []) (fun i => i ≤ l.length ∧ ∀ k, k < i → (l.getD k default == m.getD k default) = true) (fun i => l.length - i) (0) ?_ ?_ ?_ ?_
  · simp
  · rfl
  · exact at_
  rintro i r ⟨h1, h2⟩
  by_cases hi : i < l.length
  · repeat' first | refine go_ ?_ | refine br_ (fun hw => ?_) (fun hw => ?_) <;> try omega | fail
    · refine leafE ?_ rfl
      rw [eqL_at (p := fun a b => a == b) hi (by rw [← Bool.not_eq_true]; simp_all) (by omega)]
    · refine ⟨i + 1, ?_, ?_, by first | rfl | (simp [go_sem]; done), ou_, at_⟩ <;> (try dsimp only)
      · exact ⟨by omega, before_succ h2 (by simp_all)⟩
      · omega
  · repeat' first | refine go_ ?_ | refine br_ (fun hw => ?_) (fun hw => ?_) <;> try omega | fail
    refine leafE ?_ rfl
    rw [eqL_non (p := fun a b => a == b) hlm (fun k hk => h2 k (by omega))]
theorem ref12_SameRow (l m : List Val) (hl : l.length ≤ 2 ^ 60) (hm : m.length ≤ 2 ^ 60) : CallF Tryz.prog n_ref12_SameRow [eVals l, eVals m] (.bool (eqL (fun a b => a == b) l m)) := by
  simp only [eVals]
  refine CallF.of_nil (of_ref12_SameRow (by simp) ?_) (by simp)
  unfold b_ref12_SameRow WpR
  intro Q hQr hQn hQp
  repeat' first | refine go_ ?_ | refine br_ (fun hw => ?_) (fun hw => ?_) <;> try omega | fail
  · refine leafE ?_ rfl
    rw [eqL_len (by omega)]
  have hlm : l.length = m.length := by omega
  with_reducible refine loop_i [4, 5, 11, 12, 13, 14, 15, 16, 17, 18, 19, 20, 21, 22, 23, 24, 25] (fun i : Nat => [(5, I i)]) (fun _ => []) (fun i => i ≤ l.length ∧ ∀ k, k < i → (l.getD k default == m.getD k default) = true) (fun i => l.length - i) (0) ?_ ?_ ?_ ?_
  · simp
  · rfl
  · exact at_
  rintro i r ⟨h1, h2⟩
  by_cases hi : i < l.length
  · have hb := val_beq (l.getD i default) (m.getD i default)
    repeat' first | refine go_ ?_ | refine br_ (fun hw => ?_) (fun hw => ?_) <;> try omega | fail
    · refine leafE ?_ rfl
      rw [eqL_at (p := fun a b => a == b) hi (by rw [hb, ← Bool.not_eq_true]; simp_all) (by omega)]
    · refine ⟨i + 1, ?_, ?_, by first | rfl | (simp [go_sem]; done), ou_, at_⟩ <;> (try dsimp only)
      · exact ⟨by omega, before_succ h2 (by rw [hb]; simp_all)⟩
      · omega
  · repeat' first | refine go_ ?_ | refine br_ (fun hw => ?_) (fun hw => ?_) <;> try omega | fail
    refine leafE ?_ rfl
    rw [eqL_non (p := fun a b => a == b) hlm (fun k hk => h2 k (by omega))]
def ordB (c : Col) (k : Nat) : Bool := rightV (c.order.getD k default) && decide ((c.order.getD k default).kind = c.kind) && decide (idxF (fun x => x == c.order.getD k default) c.order = k)
def orderS (c : Col) (asked : Bool) : Bool :=
  if asked then (List.range c.order.length).all (ordB c) && decide (1 ≤ c.order.length ∧ c.order.length ≤ 8) else decide (c.order.length = 0)
def okCol (c : Col) : Prop := c.name.length ≤ 2 ^ 62 ∧ c.order.length ≤ 2 ^ 60 ∧ ∀ v ∈ c.order, (-9223372036854775808 ≤ v.n ∧ v.n ≤ 9223372036854775807) ∧ v.s.length ≤ 2 ^ 62
theorem orderS_at {c : Col} {i : Nat} (hi : i < c.order.length) (h : ordB c i = false) : orderS c true = false := by
  unfold orderS
  rw [if_pos rfl]
  have : (List.range c.order.length).all (ordB c) = false := by
    rw [List.all_eq_false]; exact ⟨i, by simpa using hi, by simp [h]⟩
  rw [this]; rfl
theorem orderS_non {c : Col} (h : ∀ k, k < c.order.length → ordB c k = true) : orderS c true = decide (1 ≤ c.order.length ∧ c.order.length ≤ 8) := by
  unfold orderS
  rw [if_pos rfl]
  have : (List.range c.order.length).all (ordB c) = true := by
    rw [List.all_eq_true]; intro k hk; exact h k (by simpa using hk)
  rw [this]; rfl
theorem dtable_order (c : Col) (b : Bool) (h : okCol c) : CallF Tryz.prog n_dtable_order [eCol c, .bool b] (.bool (orderS c b)) := by
  obtain ⟨_, hl, hv⟩ := h
  simp only [eCol, eVals]
  cases b with
  | false =>
    have hS : orderS c false = decide (c.order.length = 0) := rfl
    rw [hS]
    refine CallF.of_nil (of_dtable_order (by simp) ?_) (by simp)
    unfold b_dtable_order WpR
    intro Q hQr hQn hQp
    repeat' first | refine go_ ?_ | refine br_ (fun hw => ?_) (fun hw => ?_) <;> try omega | fail
    refine leafE ?_ rfl
    refine congrArg AV.bool ?_
    rw [Bool.eq_iff_iff]; simp_all
  | true =>
    refine CallF.of_nil (of_dtable_order (by simp) ?_) (by simp)
    unfold b_dtable_order WpR
    intro Q hQr hQn hQp
    repeat' first | refine go_ ?_ | refine br_ (fun hw => ?_) (fun hw => ?_) <;> try omega | fail
    with_reducible refine loop_i [4, 5, 6, 16, 17, 18, 19, 20, 21, 22, 23, 24, 25, 26, 27, 28, 29, 30, 31, 32, 33, 34, 35, 36, 37, 38, 39] (fun q : Nat × List AObj => [(16, I q.1)]) (fun q => .cells [.str c.name, I c.kind, .lst false EV (c.order.map eVal)] :: q.2) (fun q => q.1 ≤ c.order.length ∧ ∀ k, k < q.1 → ordB c k = true) (fun q => c.order.length - q.1) (0, []) ?_ ?_ ?_ ?_
    · simp
    · rfl
    · exact at_
    rintro ⟨i, τ⟩ r ⟨h1, h2⟩
    dsimp only at h1 h2
    by_cases hi : i < c.order.length
    · have hvi := hv _ (getD_mem hi)
      have hO : ordB c i = (rightV (c.order.getD i default) && decide ((c.order.getD i default).kind = c.kind) && decide (idxF (fun x => x == c.order.getD i default) c.order = i)) := rfl
      obtain ⟨v, hveq⟩ : ∃ v, c.order.getD i default = v := ⟨_, rfl⟩
      rw [hveq] at hvi hO
      have c1 := value_Check v.kind v.n v.s hvi.1.1 hvi.1.2
      have c2 := slices_Index_Value c.order v hl
      rw [show (⟨v.kind, v.n, v.s⟩ : Val) = v from rfl] at c1
      simp only [eVals, eVal] at c2
      generalize idxF (fun x => x == v) c.order = ix at *
      cases hrv : rightV v
      all_goals (rw [hrv] at c1 hO; simp only [errB, Bool.false_eq_true, if_false, if_true] at c1)
      · repeat' first | simp (disch := omega) only [go_sem, hQr, hQn, hQp, wrapK_i64, wrapK_u8, wrapK_u64, Nat.reduceAdd, Nat.reduceBEq, ↓reduceIte, hveq] | refine go_ ?_ | refine cf_ c1 ?_ | refine cf_ c2 ?_ | refine br_ (fun hw => ?_) (fun hw => ?_) <;> try omega | fail
        all_goals (refine leafE ?_ rfl; rw [orderS_at hi (by rw [hO]; rfl)])
      · repeat' first | simp (disch := omega) only [go_sem, hQr, hQn, hQp, wrapK_i64, wrapK_u8, wrapK_u64, Nat.reduceAdd, Nat.reduceBEq, ↓reduceIte, hveq] | refine go_ ?_ | refine cf_ c1 ?_ | refine cf_ c2 ?_ | refine br_ (fun hw => ?_) (fun hw => ?_) <;> try omega | fail
        all_goals first
          | (refine leafE ?_ rfl; rw [orderS_at hi (by rw [hO]; simp_all; done)])
          | (refine ⟨(i + 1, τ ++ [.cells [I v.kind, I v.n, .str v.s]]), ?_, ?_, by first | rfl | (simp [go_sem]; done), ou_, at_⟩ <;> (try dsimp only)
             · exact ⟨by omega, before_succ h2 (by rw [hO]; simp_all)⟩
             · omega)
    · repeat' first | refine go_ ?_ | refine br_ (fun hw => ?_) (fun hw => ?_) <;> try omega | fail
      all_goals (refine leafE ?_ rfl; rw [orderS_non (fun k hk => h2 k (by omega))]; refine congrArg AV.bool ?_; rw [Bool.eq_iff_iff]; simp_all)
      all_goals (try omega)
theorem idxF_le {α : Type} [Inhabited α] {p : α → Bool} {l : List α} : ∀ {k : Nat}, k < l.length → p (l.getD k default) = true → idxF p l ≤ k := by
  intro k
  induction k using Nat.strongRecOn with
  | _ k ih =>
    intro hk h
    by_cases ha : ∀ j, j < k → p (l.getD j default) = false
    · rw [idxF_at hk ha h]; exact Int.le_refl _
    · simp only [Classical.not_forall] at ha
      obtain ⟨j, hj, hn⟩ := ha
      have := ih j hj (by omega) (by simpa using hn)
      omega
theorem ordB_dup {c : Col} {k i : Nat} (hk : k < i) (hi : i < c.order.length) (h : (c.order.getD k default == c.order.getD i default) = true) : ordB c i = false := by
  have := idxF_le (p := fun x => x == c.order.getD i default) (l := c.order) (k := k) (by omega) h
  unfold ordB
  rw [Bool.and_eq_false_iff]
  exact .inr (decide_eq_false (by omega))
theorem ordB_ok {c : Col} {i : Nat} (hi : i < c.order.length) (h : ∀ k, k < i → (c.order.getD k default == c.order.getD i default) = false) (hr : rightV (c.order.getD i default) = true) (hk : (c.order.getD i default).kind = c.kind) : ordB c i = true := by
  have := idxF_at (p := fun x => x == c.order.getD i default) (l := c.order) hi h (by simp)
  unfold ordB
  rw [this, hr, hk]; simp
theorem ordB_no {c : Col} {i : Nat} (h : rightV (c.order.getD i default) = false ∨ (c.order.getD i default).kind ≠ c.kind) : ordB c i = false := by
  unfold ordB
  rcases h with h | h
  · rw [h]; rfl
  · rw [decide_eq_false h, Bool.and_false]; rfl
theorem ref18_order (c : Col) (b : Bool) (h : okCol c) : CallF Tryz.prog n_ref18_order [eCol c, .bool b] (.bool (orderS c b)) := by
  obtain ⟨_, hl, hv⟩ := h
  simp only [eCol, eVals]
  cases b with
  | false =>
    have hS : orderS c false = decide (c.order.length = 0) := rfl
    rw [hS]
    refine CallF.of_nil (of_ref18_order (by simp) ?_) (by simp)
    unfold b_ref18_order WpR
    intro Q hQr hQn hQp
    repeat' first | refine go_ ?_ | refine br_ (fun hw => ?_) (fun hw => ?_) <;> try omega | fail
    refine leafE ?_ rfl
    refine congrArg AV.bool ?_
    rw [Bool.eq_iff_iff]; simp_all
  | true =>
    refine CallF.of_nil (of_ref18_order (by simp) ?_) (by simp)
    unfold b_ref18_order WpR
    intro Q hQr hQn hQp
    repeat' first | refine go_ ?_ | refine br_ (fun hw => ?_) (fun hw => ?_) <;> try omega | fail
    with_reducible refine loop_i [4, 5, 6, 13, 14, 15, 16, 17, 18, 19, 20, 21, 22, 23, 24, 25, 26, 27, 28, 29, 30, 31, 32, 33, 34, 35, 36, 37, 38, 39, 40, 41, 42, 43, 44, 45, 46, 47, 48, 49, 50, 51, 52, 53] (fun i : Nat => [(5, I i)]) (fun _ => [.cells [.str c.name, I c.kind, .lst false EV (c.order.map eVal)]]) (fun i => i ≤ c.order.length ∧ ∀ k, k < i → ordB c k = true) (fun i => c.order.length - i) (0) ?_ ?_ ?_ ?_
    · simp
    · rfl
    · exact at_
    rintro i r ⟨h1, h2⟩
    by_cases hi : i < c.order.length
    · have hvi := hv _ (getD_mem hi)
      have hno := fun h => orderS_at hi (ordB_no (c := c) (i := i) h)
      have hdup := fun k hk h => orderS_at hi (ordB_dup (c := c) (k := k) (i := i) hk hi h)
      have hok := fun h hr hk => before_succ h2 (ordB_ok (c := c) hi h hr hk)
      obtain ⟨v, hveq⟩ : ∃ v, c.order.getD i default = v := ⟨_, rfl⟩
      rw [hveq] at hvi hno hdup hok
      have c1 := ref12_Right v.kind v.n v.s hvi.2
      rw [show (⟨v.kind, v.n, v.s⟩ : Val) = v from rfl] at c1
      cases hrv : rightV v
      all_goals rw [hrv] at c1
      · repeat' first | simp (disch := omega) only [go_sem, hQr, hQn, hQp, wrapK_i64, wrapK_u8, wrapK_u64, Nat.reduceAdd, Nat.reduceBEq, ↓reduceIte, hveq] | refine go_ ?_ | refine cf_ c1 ?_ | refine br_ (fun hw => ?_) (fun hw => ?_) <;> try omega | fail
        all_goals (refine leafE ?_ rfl; rw [hno (.inl hrv)])
      · repeat' first | simp (disch := omega) only [go_sem, hQr, hQn, hQp, wrapK_i64, wrapK_u8, wrapK_u64, Nat.reduceAdd, Nat.reduceBEq, ↓reduceIte, hveq] | refine go_ ?_ | refine cf_ c1 ?_ | refine br_ (fun hw => ?_) (fun hw => ?_) <;> try omega | fail
        · refine leafE ?_ rfl; rw [hno (.inr (by simp_all))]
        with_reducible refine loop_i [4, 6, 38, 39, 40, 41, 42, 43, 44, 45, 46, 47, 48, 49, 50, 51, 52, 53] (fun k : Nat => [(6, I k)]) (fun _ => [.cells [.str c.name, I c.kind, .lst false EV (c.order.map eVal)]]) (fun k => k ≤ i ∧ ∀ j, j < k → (c.order.getD j default == v) = false) (fun k => i - k) (0) ?_ ?_ ?_ ?_
        · simp
        · rfl
        · exact at_
        rintro k r2 ⟨g1, g2⟩
        by_cases hk : k < i
        · have hdk := hdup k hk
          have hgk := before_succ (i := k) g2
          obtain ⟨u, hueq⟩ : ∃ u, c.order.getD k default = u := ⟨_, rfl⟩
          rw [hueq] at hdk hgk
          have hb := val_beq u v
          repeat' first | simp (disch := omega) only [go_sem, hQr, hQn, hQp, wrapK_i64, wrapK_u8, wrapK_u64, Nat.reduceAdd, Nat.reduceBEq, ↓reduceIte, hveq, hueq] | refine go_ ?_ | refine br_ (fun hw => ?_) (fun hw => ?_) <;> try omega | fail
          · refine leafE ?_ rfl
            rw [hdk (by rw [hb]; simp_all)]
          · refine ⟨k + 1, ?_, ?_, by first | rfl | (simp [go_sem]; done), ou_, at_⟩ <;> (try dsimp only)
            · exact ⟨by omega, hgk (by rw [hb, ← Bool.not_eq_true]; simp_all)⟩
            · omega
        · repeat' first | refine go_ ?_ | refine br_ (fun hw => ?_) (fun hw => ?_) <;> try omega | fail
          refine ⟨i + 1, ?_, ?_, by first | rfl | (simp [go_sem]; done), ou_, at_⟩ <;> (try dsimp only)
          · exact ⟨by omega, hok (fun j hj => g2 j (by omega)) hrv (by simp_all)⟩
          · omega
    · repeat' first | refine go_ ?_ | refine br_ (fun hw => ?_) (fun hw => ?_) <;> try omega | fail
      all_goals (refine leafE ?_ rfl; rw [orderS_non (fun k hk => h2 k (by omega))]; refine congrArg AV.bool ?_; rw [Bool.eq_iff_iff]; simp_all)
      all_goals (try omega)
def colF (l : List Col) (b : Bool) : Int := if colsS l ≠ 0 then colsS l else if l.length = 0 ∨ (l.any fun c => !(orderS c b)) = true then 17 else 0
theorem dtable_columns_1 (c : Col) (b : Bool) (h : okCol c) : CallF Tryz.prog n_dtable_columns_1 [eCol c, .eref E1 (.bool b) 0] (.bool (!(orderS c b))) := by
  have h1 := dtable_order c b h
  simp only [eCol, eVals] at h1 ⊢
  generalize orderS c b = o at *
  refine CallF.of_nil (of_dtable_columns_1 (by simp) ?_) (by simp)
  unfold b_dtable_columns_1 WpR
  intro Q hQr hQn hQp
  repeat' first | refine go_ ?_ | refine cf_ h1 ?_ | refine br_ (fun hw => ?_) (fun hw => ?_) <;> try omega | fail
  all_goals exact leafE rfl rfl
theorem dtable_columns (l : List Col) (b : Bool) (hl : l.length ≤ 2 ^ 60) (h : ∀ c ∈ l, okCol c) : CallF Tryz.prog n_dtable_columns [eCols l, .bool b] (I (colF l b)) := by
  have h1 := typing_Columns l (fun k hk => (h _ (getD_mem hk)).1)
  have h2 := slices_ContainsFunc_Column n_dtable_columns_1 [.eref E1 (.bool b) 0] rfl (fun c => !(orderS c b)) l (fun k hk => dtable_columns_1 _ b (h _ (getD_mem hk))) (by omega)
  have hS : colF l b = if colsS l ≠ 0 then colsS l else if l.length = 0 ∨ (l.any fun c => !(orderS c b)) = true then 17 else 0 := rfl
  rw [hS]
  clear hS
  simp only [eCols] at h1 h2 ⊢
  generalize (l.any fun c => !(orderS c b)) = an at *
  generalize colsS l = cs at *
  refine CallF.of_nil (of_dtable_columns (by simp) ?_) (by simp)
  unfold b_dtable_columns WpR
  intro Q hQr hQn hQp
  repeat' first | refine go_ ?_ | refine cf_ h1 ?_ | refine cv_ h2 ?_ | refine br_ (fun hw => ?_) (fun hw => ?_) <;> try omega | fail
  all_goals (refine leafE ?_ rfl; refine congrArg I ?_; simp_all [← List.length_eq_zero_iff])
  all_goals (try omega)
end Go.Proofs.YthkhdedadacakaaGreatDoor
