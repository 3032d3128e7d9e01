/- Part of a proof: see Root. -/
import Derived.Test.YthkhdedadacakaaGreatDoorZ26
set_option linter.unnecessarySimpa false
set_option linter.unusedSimpArgs false
set_option linter.unusedVariables false
namespace Go.Proofs.YthkhdedadacakaaGreatDoor
open Go.AM
set_option maxRecDepth 4000
theorem idxF_le {α : Type} [Inhabited α] {p : α → Bool} {l : List α} : ∀ {k : Nat}, k < l.length → p (l.getD k default) = true → idxF p l ≤ k := by
  intro k
  induction k using Nat.strongRecOn with
  | _ k ih =>
    intro hk h
    by_cases ha : ∀ j, j < k → p (l.getD j default) = false
    · rw [idxF_at hk ha h]; exact Int.le_refl _
    · simp only [Classical.not_forall] at ha
      obtain ⟨j, hj, hn⟩ := ha
      have := ih j hj (by omega) (by simpa using hn)
      omega
theorem ordB_dup {c : Col} {k i : Nat} (hk : k < i) (hi : i < c.order.length) (h : (c.order.getD k default == c.order.getD i default) = true) : ordB c i = false := by
  have := idxF_le (p := fun x => x == c.order.getD i default) (l := c.order) (k := k) (by omega) h
  unfold ordB
  rw [Bool.and_eq_false_iff]
  exact .inr (decide_eq_false (by omega))
theorem ordB_ok {c : Col} {i : Nat} (hi : i < c.order.length) (h : ∀ k, k < i → (c.order.getD k default == c.order.getD i default) = false) (hr : rightV (c.order.getD i default) = true) (hk : (c.order.getD i default).kind = c.kind) : ordB c i = true := by
  have := idxF_at (p := fun x => x == c.order.getD i default) (l := c.order) hi h (by simp)
  unfold ordB
  rw [this, hr, hk]; simp
theorem ordB_no {c : Col} {i : Nat} (h : rightV (c.order.getD i default) = false ∨ (c.order.getD i default).kind ≠ c.kind) : ordB c i = false := by
  unfold ordB
  rcases h with h | h
  · rw [h]; rfl
  · rw [decide_eq_false h, Bool.and_false]; rfl
theorem ref18_order (c : Col) (b : Bool) (h : okCol c) : CallF Tryz.prog n_ref18_order [eCol c, .bool b] (.bool (orderS c b)) := by
  obtain ⟨_, hl, hv⟩ := h
  simp only [eCol, eVals]
  cases b with
  | false =>
    have hS : orderS c false = decide (c.order.length = 0) := rfl
    rw [hS]
    refine CallF.of_nil (of_ref18_order (by simp) ?_) (by simp)
    unfold b_ref18_order WpR
    intro Q hQr hQn hQp
    repeat' first | refine go_ ?_ | refine br_ (fun hw => ?_) (fun hw => ?_) <;> try omega | fail
    refine leafE ?_ rfl
    refine congrArg AV.bool ?_
    rw [Bool.eq_iff_iff]; simp_all
  | true =>
    refine CallF.of_nil (of_ref18_order (by simp) ?_) (by simp)
    unfold b_ref18_order WpR
    intro Q hQr hQn hQp
    repeat' first | refine go_ ?_ | refine br_ (fun hw => ?_) (fun hw => ?_) <;> try omega | fail
    with_reducible refine loop_i [4, 5, 6, 13, 14, 15, 16, 17, 18, 19, 20, 21, 22, 23, 24, 25, 26, 27, 28, 29, 30, 31, 32, 33, 34, 35, 36, 37, 38, 39, 40, 41, 42, 43, 44, 45, 46, 47, 48, 49, 50, 51, 52, 53] (fun i : Nat => [(5, I i)]) (fun _ => [.cells [.str c.name, I c.kind, .lst false EV (c.order.map eVal)]]) (fun i => i ≤ c.order.length ∧ ∀ k, k < i → ordB c k = true) (fun i => c.order.length - i) (0) ?_ ?_ ?_ ?_
    · simp
    · rfl
    · exact at_
    rintro i r ⟨h1, h2⟩
    by_cases hi : i < c.order.length
    · have hvi := hv _ (getD_mem hi)
      have hno := fun h => orderS_at hi (ordB_no (c := c) (i := i) h)
      have hdup := fun k hk h => orderS_at hi (ordB_dup (c := c) (k := k) (i := i) hk hi h)
      have hok := fun h hr hk => before_succ h2 (ordB_ok (c := c) hi h hr hk)
      obtain ⟨v, hveq⟩ : ∃ v, c.order.getD i default = v := ⟨_, rfl⟩
      rw [hveq] at hvi hno hdup hok
      have c1 := ref12_Right v.kind v.n v.s hvi.2
      rw [show (⟨v.kind, v.n, v.s⟩ : Val) = v from rfl] at c1
      cases hrv : rightV v
      all_goals rw [hrv] at c1
      · repeat' first | simp (disch := omega) only [go_sem, hQr, hQn, hQp, wrapK_i64, wrapK_u8, wrapK_u64, Nat.reduceAdd, Nat.reduceBEq, ↓reduceIte, hveq] | refine go_ ?_ | refine cf_ c1 ?_ | refine br_ (fun hw => ?_) (fun hw => ?_) <;> try omega | fail
        all_goals (refine leafE ?_ rfl; rw [hno (.inl hrv)])
      · repeat' first | simp (disch := omega) only [go_sem, hQr, hQn, hQp, wrapK_i64, wrapK_u8, wrapK_u64, Nat.reduceAdd, Nat.reduceBEq, ↓reduceIte, hveq] | refine go_ ?_ | refine cf_ c1 ?_ | refine br_ (fun hw => ?_) (fun hw => ?_) <;> try omega | fail
        · refine leafE ?_ rfl; rw [hno (.inr (by simp_all))]
        with_reducible refine loop_i [4, 6, 38, 39, 40, 41, 42, 43, 44, 45, 46, 47, 48, 49, 50, 51, 52, 53] (fun k : Nat => [(6, I k)]) (fun _ => [.cells [.str c.name, I c.kind, .lst false EV (c.order.map eVal)]]) (fun k => k ≤ i ∧ ∀ j, j < k → (c.order.getD j default == v) = false) (fun k => i - k) (0) ?_ ?_ ?_ ?_
        · simp
        · rfl
        · exact at_
        rintro k r2 ⟨g1, g2⟩
        by_cases hk : k < i
        · have hdk := hdup k hk
          have hgk := before_succ (i := k) g2
          obtain ⟨u, hueq⟩ : ∃ u, c.order.getD k default = u := ⟨_, rfl⟩
          rw [hueq] at hdk hgk
          have hb := val_beq u v
          repeat' first | simp (disch := omega) only [go_sem, hQr, hQn, hQp, wrapK_i64, wrapK_u8, wrapK_u64, Nat.reduceAdd, Nat.reduceBEq, ↓reduceIte, hveq, hueq] | refine go_ ?_ | refine br_ (fun hw => ?_) (fun hw => ?_) <;> try omega | fail
          · refine leafE ?_ rfl
            rw [hdk (by rw [hb]; simp_all)]
          · refine ⟨k + 1, ?_, ?_, by first | rfl | (simp [go_sem]; done), ou_, at_⟩ <;> (try dsimp only)
            · exact ⟨by omega, hgk (by rw [hb, ← Bool.not_eq_true]; simp_all)⟩
            · omega
        · repeat' first | refine go_ ?_ | refine br_ (fun hw => ?_) (fun hw => ?_) <;> try omega | fail
          refine ⟨i + 1, ?_, ?_, by first | rfl | (simp [go_sem]; done), ou_, at_⟩ <;> (try dsimp only)
          · exact ⟨by omega, hok (fun j hj => g2 j (by omega)) hrv (by simp_all)⟩
          · omega
    · repeat' first | refine go_ ?_ | refine br_ (fun hw => ?_) (fun hw => ?_) <;> try omega | fail
      all_goals (refine leafE ?_ rfl; rw [orderS_non (fun k hk => h2 k (by omega))]; refine congrArg AV.bool ?_; rw [Bool.eq_iff_iff]; simp_all)
      all_goals (try omega)
def colF (l : List Col) (b : Bool) : Int := if colsS l ≠ 0 then colsS l else if l.length = 0 ∨ (l.any fun c => !(orderS c b)) = true then 17 else 0
theorem dtable_columns_1 (c : Col) (b : Bool) (h : okCol c) : CallF Tryz.prog n_dtable_columns_1 [eCol c, .eref E1 (.bool b) 0] (.bool (!(orderS c b))) := by
  have h1 := dtable_order c b h
  simp only [eCol, eVals] at h1 ⊢
  generalize orderS c b = o at *
  refine CallF.of_nil (of_dtable_columns_1 (by simp) ?_) (by simp)
  unfold b_dtable_columns_1 WpR
  intro Q hQr hQn hQp
  repeat' first | refine go_ ?_ | refine cf_ h1 ?_ | refine br_ (fun hw => ?_) (fun hw => ?_) <;> try omega | fail
  all_goals exact leafE rfl rfl
theorem dtable_columns (l : List Col) (b : Bool) (hl : l.length ≤ 2 ^ 60) (h : ∀ c ∈ l, okCol c) : CallF Tryz.prog n_dtable_columns [eCols l, .bool b] (I (colF l b)) := by
  have h1 := typing_Columns l (fun k hk => (h _ (getD_mem hk)).1)
  have h2 := slices_ContainsFunc_Column n_dtable_columns_1 [.eref E1 (.bool b) 0] rfl (fun c => !(orderS c b)) l (fun k hk => dtable_columns_1 _ b (h _ (getD_mem hk))) (by omega)
  have hS : colF l b = if colsS l ≠ 0 then colsS l else if l.length = 0 ∨ (l.any fun c => !(orderS c b)) = true then 17 else 0 := rfl
  rw [hS]
  clear hS
  simp only [eCols] at h1 h2 ⊢
  generalize (l.any fun c => !(orderS c b)) = an at *
  generalize colsS l = cs at *
  refine CallF.of_nil (of_dtable_columns (by simp) ?_) (by simp)
  unfold b_dtable_columns WpR
  intro Q hQr hQn hQp
  repeat' first | refine go_ ?_ | refine cf_ h1 ?_ | refine cv_ h2 ?_ | refine br_ (fun hw => ?_) (fun hw => ?_) <;> try omega | fail
  all_goals (refine leafE ?_ rfl; refine congrArg I ?_; simp_all [← List.length_eq_zero_iff])
  all_goals (try omega)
theorem ref18_columns (l : List Col) (b : Bool) (hl : l.length ≤ 2 ^ 60) (h : ∀ c ∈ l, okCol c) : CallF Tryz.prog n_ref18_columns [eCols l, .bool b] (I (colF l b)) := by
  have h1 := ref15_Columns l (fun k hk => (h _ (getD_mem hk)).1)
  have hS : colF l b = if colsS l ≠ 0 then colsS l else if l.length = 0 ∨ (l.any fun c => !(orderS c b)) = true then 17 else 0 := rfl
  rw [hS]
  clear hS
  simp only [eCols] at h1 ⊢
  generalize colsS l = cs at *
  refine CallF.of_nil (of_ref18_columns (by simp) ?_) (by simp)
  unfold b_ref18_columns WpR
  intro Q hQr hQn hQp
  repeat' first | refine go_ ?_ | refine cf_ h1 ?_ | refine br_ (fun hw => ?_) (fun hw => ?_) <;> try omega | fail
  · refine leafE ?_ rfl; refine congrArg I ?_; rw [if_pos (by omega)]
  have hcs : ¬ cs ≠ 0 := by omega
  rw [if_neg hcs] at hQr
  with_reducible refine loop_i [4, 6, 12, 13, 14, 15, 16, 17, 18, 19, 20, 21, 22, 23, 24] (fun i : Nat => [(6, I i)]) (fun _ => []) (fun i => i ≤ l.length ∧ ∀ k, k < i → (!(orderS (l.getD k default) b)) = false) (fun i => l.length - i) (0) ?_ ?_ ?_ ?_
  · simp
  · rfl
  · exact at_
  rintro i r ⟨h1, h2⟩
  by_cases hi : i < l.length
  · have h3 := ref18_order _ b (h _ (getD_mem hi))
    simp only [eCol, eVals] at h3
    repeat' first | refine go_ ?_ | refine cf_ h3 ?_ | refine br_ (fun hw => ?_) (fun hw => ?_) <;> try omega | fail
    · refine leafE ?_ rfl
      refine congrArg I ?_
      rw [any_at (p := fun c => !(orderS c b)) hi (by simpa using hw)]; simp
    · refine ⟨i + 1, ?_, ?_, by first | rfl | (simp [go_sem]; done), ou_, at_⟩ <;> (try dsimp only)
      · exact ⟨by omega, before_succ h2 (by simpa using hw)⟩
      · omega
  · repeat' first | refine go_ ?_ | refine br_ (fun hw => ?_) (fun hw => ?_) <;> try omega | fail
    all_goals (refine leafE ?_ rfl; rw [any_non (p := fun c => !(orderS c b)) (fun k hk => h2 k (by omega))]; refine congrArg I ?_; simp_all [← List.length_eq_zero_iff])
    all_goals (try omega)
def policyS (t : Table) : Bool :=
  if t.policy < 1 ∨ 6 < t.policy then false else if t.agg = 0 then true
  else if t.policy ≠ 5 ∨ t.agg < 1 ∨ 4 < t.agg ∨ t.outs.length ≠ 1 then false
  else decide (t.agg = 4 ∨ (t.outs.getD 0 default).kind = 1 ∨ (t.outs.getD 0 default).kind = 2 ∧ t.agg ≠ 1)
def frameS (t : Table) : Int :=
  if nameS t.name = false then 13 else if colF t.ins false ≠ 0 then colF t.ins false
  else if colF t.outs (decide (t.policy = 3)) ≠ 0 then colF t.outs (decide (t.policy = 3))
  else if policyS t = false then 17 else if 24 < t.rules.length then 24 else 0
def okTab (t : Table) : Prop := t.name.length ≤ 2 ^ 30 ∧ (t.ins.length ≤ 2 ^ 30 ∧ ∀ c ∈ t.ins, okCol c) ∧ (t.outs.length ≤ 2 ^ 30 ∧ ∀ c ∈ t.outs, okCol c) ∧
  t.rules.length ≤ 2 ^ 30 ∧ ∀ r ∈ t.rules, (r.cells.length ≤ 2 ^ 30 ∧ ∀ s ∈ r.cells, s.length ≤ 2 ^ 30) ∧ r.outs.length ≤ 2 ^ 30 ∧ ∀ s ∈ r.outs, s.length ≤ 2 ^ 30
theorem colsS_kind {l : List Col} (h : colsS l = 0) {i : Nat} (hi : i < l.length) : 1 ≤ (l.getD i default).kind ∧ (l.getD i default).kind ≤ 3 := by
  by_cases h6 : 6 < l.length
  · unfold colsS at h; rw [if_pos h6] at h; omega
  · by_cases hc : ∀ k, k < l.length → colE l k = 0
    · have := hc i hi
      unfold colE at this
      split at this
      · omega
      · split at this
        · omega
        · omega
    · exfalso
      unfold colsS at h
      rw [if_neg h6] at h
      split at h
      · rename_i j hj
        have := List.find?_some hj
        simp [h] at this
      · rename_i hn
        apply hc
        intro k hk
        have := List.find?_eq_none.1 hn k (by simpa using hk)
        simpa using this
theorem colF_zero {l : List Col} {b : Bool} (h : colF l b = 0) : colsS l = 0 ∧ 0 < l.length := by
  unfold colF at h
  split at h
  · omega
  · split at h
    · omega
    · rename_i h1 h2
      refine ⟨by omega, ?_⟩
      rcases Nat.eq_zero_or_pos l.length with h3 | h3
      · exact absurd (.inl h3) h2
      · exact h3
theorem dtable_policy (t : Table) (ho : colsS t.outs = 0) : CallF Tryz.prog n_dtable_policy [eTable t] (.bool (policyS t)) := by
  have hk := fun h => colsS_kind ho (i := 0) h
  have hS : policyS t = if t.policy < 1 ∨ 6 < t.policy then false else if t.agg = 0 then true else if t.policy ≠ 5 ∨ t.agg < 1 ∨ 4 < t.agg ∨ t.outs.length ≠ 1 then false else decide (t.agg = 4 ∨ (t.outs.getD 0 default).kind = 1 ∨ (t.outs.getD 0 default).kind = 2 ∧ t.agg ≠ 1) := rfl
  rw [hS]
  clear hS ho
  simp only [eTable, cTable, eCols, eRules]
  obtain ⟨c, hceq⟩ : ∃ c, t.outs.getD 0 default = c := ⟨_, rfl⟩
  rw [hceq] at hk ⊢
  refine CallF.of_nil (of_dtable_policy (by simp) ?_) (by simp)
  unfold b_dtable_policy WpR
  intro Q hQr hQn hQp
  repeat' first | simp (disch := omega) only [go_sem, hQr, hQn, hQp, wrapK_i64, wrapK_u8, wrapK_u64, Nat.reduceAdd, Nat.reduceBEq, ↓reduceIte, hceq] | refine go_ ?_ | refine br_ (fun hw => ?_) (fun hw => ?_) <;> try omega | fail
  all_goals (refine leafE ?_ rfl; refine congrArg AV.bool ?_; rw [Bool.eq_iff_iff]; simp_all)
  all_goals (try omega)
theorem ref18_policy (t : Table) : CallF Tryz.prog n_ref18_policy [eTable t] (.bool (policyS t)) := by
  have hS : policyS t = if t.policy < 1 ∨ 6 < t.policy then false else if t.agg = 0 then true else if t.policy ≠ 5 ∨ t.agg < 1 ∨ 4 < t.agg ∨ t.outs.length ≠ 1 then false else decide (t.agg = 4 ∨ (t.outs.getD 0 default).kind = 1 ∨ (t.outs.getD 0 default).kind = 2 ∧ t.agg ≠ 1) := rfl
  rw [hS]
  clear hS
  simp only [eTable, cTable, eCols, eRules]
  obtain ⟨c, hceq⟩ : ∃ c, t.outs.getD 0 default = c := ⟨_, rfl⟩
  rw [hceq]
  refine CallF.of_nil (of_ref18_policy (by simp) ?_) (by simp)
  unfold b_ref18_policy WpR
  intro Q hQr hQn hQp
  repeat' first | simp (disch := omega) only [go_sem, hQr, hQn, hQp, wrapK_i64, wrapK_u8, wrapK_u64, Nat.reduceAdd, Nat.reduceBEq, ↓reduceIte, hceq] | refine go_ ?_ | refine br_ (fun hw => ?_) (fun hw => ?_) <;> try omega | fail
  all_goals (refine leafE ?_ rfl; refine congrArg AV.bool ?_; rw [Bool.eq_iff_iff]; simp_all)
  all_goals (try omega)
theorem dtable_frame (t : Table) (h : okTab t) : CallF Tryz.prog n_dtable_frame [eTable t] (I (frameS t)) := by
  obtain ⟨h1, h2, h3, h4, _⟩ := h
  have c1 := lex_Name t.name (by omega)
  have c2 := dtable_columns t.ins false (by omega) h2.2
  have c3 := dtable_columns t.outs (decide (t.policy = 3)) (by omega) h3.2
  have c4 : colF t.outs (decide (t.policy = 3)) = 0 → CallF Tryz.prog n_dtable_policy [eTable t] (.bool (policyS t)) := fun hb => dtable_policy t (colF_zero hb).1
  have hS : frameS t = if nameS t.name = false then 13 else if colF t.ins false ≠ 0 then colF t.ins false else if colF t.outs (decide (t.policy = 3)) ≠ 0 then colF t.outs (decide (t.policy = 3)) else if policyS t = false then 17 else if 24 < t.rules.length then 24 else 0 := rfl
  rw [hS]
  clear hS
  simp only [eTable, cTable, eCols, eRules] at c2 c3 c4 ⊢
  generalize nameS t.name = n at *
  generalize colF t.ins false = a at *
  generalize colF t.outs (decide (t.policy = 3)) = b at *
  generalize policyS t = p at *
  by_cases hb : b = 0
  · have c5 := c4 hb
    clear c4
    refine CallF.of_nil (of_dtable_frame (by simp) ?_) (by simp)
    unfold b_dtable_frame WpR
    intro Q hQr hQn hQp
    repeat' first | refine go_ ?_ | refine cf_ c1 ?_ | refine cf_ c2 ?_ | refine cf_ c3 ?_ | refine cf_ c5 ?_ | refine br_ (fun hw => ?_) (fun hw => ?_) <;> try omega | fail
    all_goals (refine leafE ?_ rfl; refine congrArg I ?_; simp_all)
    all_goals (try omega)
  · clear c4
    refine CallF.of_nil (of_dtable_frame (by simp) ?_) (by simp)
    unfold b_dtable_frame WpR
    intro Q hQr hQn hQp
    repeat' first | refine go_ ?_ | refine cf_ c1 ?_ | refine cf_ c2 ?_ | refine cf_ c3 ?_ | refine br_ (fun hw => ?_) (fun hw => ?_) <;> try omega | fail
    all_goals first
      | exact ab_
      | (refine leafE ?_ rfl; refine congrArg I ?_; simp_all; done)
      | (refine leafE ?_ rfl; refine congrArg I ?_; simp_all; omega)
theorem ref18_frame (t : Table) (h : okTab t) : CallF Tryz.prog n_ref18_frame [eTable t] (I (frameS t)) := by
  obtain ⟨h1, h2, h3, h4, _⟩ := h
  have c1 := ref13_Name t.name (by omega)
  have c2 := ref18_columns t.ins false (by omega) h2.2
  have c3 := ref18_columns t.outs (decide (t.policy = 3)) (by omega) h3.2
  have c4 : colF t.outs (decide (t.policy = 3)) = 0 → CallF Tryz.prog n_ref18_policy [eTable t] (.bool (policyS t)) := fun hb => ref18_policy t
  have hS : frameS t = if nameS t.name = false then 13 else if colF t.ins false ≠ 0 then colF t.ins false else if colF t.outs (decide (t.policy = 3)) ≠ 0 then colF t.outs (decide (t.policy = 3)) else if policyS t = false then 17 else if 24 < t.rules.length then 24 else 0 := rfl
  rw [hS]
  clear hS
  simp only [eTable, cTable, eCols, eRules] at c2 c3 c4 ⊢
  generalize nameS t.name = n at *
  generalize colF t.ins false = a at *
  generalize colF t.outs (decide (t.policy = 3)) = b at *
  generalize policyS t = p at *
  by_cases hb : b = 0
  · have c5 := c4 hb
    clear c4
    refine CallF.of_nil (of_ref18_frame (by simp) ?_) (by simp)
    unfold b_ref18_frame WpR
    intro Q hQr hQn hQp
    repeat' first | refine go_ ?_ | refine cf_ c1 ?_ | refine cf_ c2 ?_ | refine cf_ c3 ?_ | refine cf_ c5 ?_ | refine br_ (fun hw => ?_) (fun hw => ?_) <;> try omega | fail
    all_goals (refine leafE ?_ rfl; refine congrArg I ?_; simp_all)
    all_goals (try omega)
  · clear c4
    refine CallF.of_nil (of_ref18_frame (by simp) ?_) (by simp)
    unfold b_ref18_frame WpR
    intro Q hQr hQn hQp
    repeat' first | refine go_ ?_ | refine cf_ c1 ?_ | refine cf_ c2 ?_ | refine cf_ c3 ?_ | refine br_ (fun hw => ?_) (fun hw => ?_) <;> try omega | fail
    all_goals first
      | exact ab_
      | (refine leafE ?_ rfl; refine congrArg I ?_; simp_all; done)
      | (refine leafE ?_ rfl; refine congrArg I ?_; simp_all; omega)
theorem testS_ok2 {T : List Tok} (hT : okTs T) (hl : T.length ≤ 2 ^ 20) (p : Nat) (b : Bool) : okT2 (testS T p b).t := by
  have hx : ∀ p b, okX (exprR T p b).x ∧ szS (exprR T p b).x ≤ 2 ^ 30 := fun p b => ⟨(exprR_ok hT p b).1, by have := (exprR_ok hT p b).2; omega⟩
  have h0 : okX x0 ∧ szS x0 ≤ 2 ^ 30 := ⟨okX_x0, by simp [x0, szS, szL]⟩
  have h1 : ∀ k p b, okT2 (oneK k (exprR T p b)).t := fun k p b => ⟨hx p b, h0⟩
  have h2 : ∀ lo, okT2 (inR T p lo).t := fun lo => ⟨hx _ _, hx _ _⟩
  unfold testS
  split
  · exact h1 _ _ _
  split
  · exact h1 _ _ _
  split
  · exact h1 _ _ _
  split
  · exact h1 _ _ _
  split
  · exact h2 _
  split
  · exact h2 _
  · exact h1 _ _ _
theorem tests_ok2 {T : List Tok} (hT : okTs T) (hl : T.length ≤ 2 ^ 20) (f : Nat) : ∀ (acc : List Test) (p : Nat) (b : Bool), (∀ t ∈ acc, okT2 t) → (∀ t ∈ (testsF T f acc p b).ts, okT2 t) ∧ (testsF T f acc p b).ts.length ≤ acc.length + f := by
  induction f with
  | zero => intro acc p b h; exact ⟨h, Nat.le_refl _⟩
  | succ f ih =>
    intro acc p b h
    have h2 : ∀ t ∈ acc ++ [(testS T p b).t], okT2 t := fun t ht => by
      rcases List.mem_append.1 ht with ht | ht
      · exact h t ht
      · simp only [List.mem_cons, List.not_mem_nil, or_false] at ht; subst ht; exact testS_ok2 hT hl p b
    rw [testsF_succ]
    split
    · have := ih _ ((testS T p b).p + 1) (testS T p b).bad h2
      rw [List.length_append, List.length_cons, List.length_nil] at this
      exact ⟨this.1, by omega⟩
    · exact ⟨h2, by rw [List.length_append, List.length_cons, List.length_nil]; omega⟩
theorem parseC_ok2 (s : Str) : okC2 (parseC s).1 := by
  have h : okC2 ⟨false, notT (lexS s).1, (cellR (lexS s).1).ts⟩ := by
    have hf := (lexS_facts s).1
    have := tests_ok2 (lexS_ok s) (by omega) ((lexS s).1.length + 1) [] (p0C (lexS s).1) false (fun t ht => by cases ht)
    unfold cellR okC2
    rw [endC_ts]
    exact ⟨by have := this.2; simp only [List.length_nil] at this; dsimp only; omega, this.1⟩
  have h0 : okC2 c0 := ⟨Nat.zero_le _, fun t ht => by cases ht⟩
  have h1 : okC2 cAny := ⟨Nat.zero_le _, fun t ht => by cases ht⟩
  unfold parseC
  repeat' split
  all_goals first | exact h0 | exact h1 | exact h
theorem parseS_ok (s : Str) : okX (parseS s).1 ∧ szS (parseS s).1 ≤ 2 ^ 30 := by
  have h : okX (readT (lexS s).1 0 0).1 ∧ szS (readT (lexS s).1 0 0).1 ≤ 2 ^ 30 := by
    have hf := (lexS_facts s).1
    have := readT_sz (lexS s).1 0 0
    exact ⟨ok_readT (lexS_ok s) _ _, by omega⟩
  have h0 : okX x0 ∧ szS x0 ≤ 2 ^ 30 := ⟨okX_x0, by simp [x0, szS, szL]⟩
  unfold parseS
  repeat' split
  all_goals first | exact h0 | exact h
def askS (t : Table) (k : Nat) (s : Str) : Cell × Int := ((parseC s).1, if (parseC s).2.2 = 0 then typC t.ins (t.ins.getD k default).kind (parseC s).1 else (parseC s).2.2)
def tellS (t : Table) (k : Nat) (s : Str) : Expr × Int := ((parseS s).1, if (parseS s).2.2 ≠ 0 then (parseS s).2.2 else if (kindR t.ins (parseS s).1).2 = 0 ∧ fitsK (kindR t.ins (parseS s).1).1 (t.outs.getD k default).kind = false then 14 else (kindR t.ins (parseS s).1).2)
theorem dtable_ask (t : Table) (k : Nat) (s : Str) (ht : t.ins.length ≤ 2 ^ 30) (hk : k < t.ins.length) (hs : s.length ≤ 2 ^ 30) : CallF Tryz.prog n_dtable_ask [eTable t, I k, .str s] (.tup [eCell (askS t k s).1, I (askS t k s).2]) := by
  have c1 := cell_Parse s hs
  have c2 := cell_Typed t.ins (by omega) (t.ins.getD k default).kind (parseC s).1 (parseC_ok s)
  have hS : askS t k s = ((parseC s).1, if (parseC s).2.2 = 0 then typC t.ins (t.ins.getD k default).kind (parseC s).1 else (parseC s).2.2) := rfl
  rw [hS]
  clear hS
  dsimp only
  obtain ⟨cc, hcc⟩ : ∃ c, t.ins.getD k default = c := ⟨_, rfl⟩
  rw [hcc] at c2 ⊢
  generalize typC t.ins cc.kind (parseC s).1 = ty at *
  generalize parseC s = P at *
  obtain ⟨c, n, e⟩ := P
  dsimp only at c1 c2 ⊢
  simp only [eC3] at c1
  obtain ⟨C, hC⟩ : ∃ C, eCell c = C := ⟨_, rfl⟩
  have hC2 : C = .agg [.bool c.any, .bool c.neg, .lst false ES (c.tests.map eTest)] := by rw [← hC]; rfl
  simp only [eCell, eTests, eTable, cTable, eCols, eRules] at c1 c2 ⊢
  refine CallF.of_nil (of_dtable_ask (by simp) ?_) (by simp)
  unfold b_dtable_ask WpR
  intro Q hQr hQn hQp
  repeat' first | simp (disch := omega) only [go_sem, hQr, hQn, hQp, wrapK_i64, wrapK_u8, wrapK_u64, Nat.reduceAdd, Nat.reduceBEq, ↓reduceIte, hcc] | refine go_ ?_ | refine cf_ c1 ?_ | refine cf_ c2 ?_ | refine br_ (fun hw => ?_) (fun hw => ?_) <;> try omega | fail
  all_goals (refine leafNE ?_ (by simp); simp_all)
theorem dtable_tell (t : Table) (k : Nat) (s : Str) (ht : t.ins.length ≤ 2 ^ 30) (ho : t.outs.length ≤ 2 ^ 30) (hk : k < t.outs.length) (hs : s.length ≤ 2 ^ 30) : CallF Tryz.prog n_dtable_tell [eTable t, I k, .str s] (.tup [eExpr (tellS t k s).1, I (tellS t k s).2]) := by
  have c1 := syntax_Parse s hs
  have hp := parseS_ok s
  have c2 := typing_KindR t.ins (by omega) (parseS s).1 hp.1 (by have := hp.2; omega)
  have c3 := typing_Fits (kindR t.ins (parseS s).1).1 (t.outs.getD k default).kind
  have hS : tellS t k s = ((parseS s).1, if (parseS s).2.2 ≠ 0 then (parseS s).2.2 else if (kindR t.ins (parseS s).1).2 = 0 ∧ fitsK (kindR t.ins (parseS s).1).1 (t.outs.getD k default).kind = false then 14 else (kindR t.ins (parseS s).1).2) := rfl
  rw [hS]
  clear hS hp
  dsimp only
  obtain ⟨cc, hcc⟩ : ∃ c, t.outs.getD k default = c := ⟨_, rfl⟩
  rw [hcc] at c3 ⊢
  generalize fitsK (kindR t.ins (parseS s).1).1 cc.kind = fi at *
  generalize kindR t.ins (parseS s).1 = ki at *
  generalize parseS s = P at *
  obtain ⟨x, n, e⟩ := P
  dsimp only at c1 c2 ⊢
  simp only [eX3] at c1
  rw [eExpr_eq] at c1 c2 ⊢
  simp only [eExprs, eTable, cTable, eCols, eRules] at c1 c2 ⊢
  refine CallF.of_nil (of_dtable_tell (by simp) ?_) (by simp)
  unfold b_dtable_tell WpR
  intro Q hQr hQn hQp
  repeat' first | simp (disch := omega) only [go_sem, hQr, hQn, hQp, wrapK_i64, wrapK_u8, wrapK_u64, Nat.reduceAdd, Nat.reduceBEq, ↓reduceIte, hcc] | refine go_ ?_ | refine cf_ c1 ?_ | refine cf_ c2 ?_ | refine cf_ c3 ?_ | refine br_ (fun hw => ?_) (fun hw => ?_) <;> try omega | fail
  all_goals (refine leafNE ?_ (by simp); simp_all)
def askR (t : Table) (r : Rule) (k : Nat) : Cell × Int := askS t k (r.cells.getD k default)
def tellR (t : Table) (r : Rule) (k : Nat) : Expr × Int := tellS t k (r.outs.getD k default)
def cellL (t : Table) (r : Rule) (n : Nat) : List Cell := (List.range n).map fun k => (askR t r k).1
def outL (t : Table) (r : Rule) (n : Nat) : List Expr := (List.range n).map fun k => (tellR t r k).1
def lineS (t : Table) (r : Rule) : Line × Int × Int :=
  if r.cells.length ≠ t.ins.length ∨ r.outs.length ≠ t.outs.length then (⟨[], []⟩, 0, 17)
  else match (List.range r.cells.length).find? (fun k => (askR t r k).2 != 0) with
  | some k => (⟨cellL t r k, []⟩, k, (askR t r k).2)
  | none => match (List.range r.outs.length).find? (fun k => (tellR t r k).2 != 0) with
    | some k => (⟨cellL t r r.cells.length, outL t r k⟩, t.ins.length + k, (tellR t r k).2)
    | none => (⟨cellL t r r.cells.length, outL t r r.outs.length⟩, 0, 0)
theorem cellL_succ (t : Table) (r : Rule) (n : Nat) : cellL t r (n + 1) = cellL t r n ++ [(askR t r n).1] := by simp [cellL, List.range_succ]
theorem outL_succ (t : Table) (r : Rule) (n : Nat) : outL t r (n + 1) = outL t r n ++ [(tellR t r n).1] := by simp [outL, List.range_succ]
theorem len_cellL (t : Table) (r : Rule) (n : Nat) : (cellL t r n).length = n := by simp [cellL]
theorem len_outL (t : Table) (r : Rule) (n : Nat) : (outL t r n).length = n := by simp [outL]
theorem range_at {n i : Nat} {p : Nat → Bool} (hi : i < n) (h : ∀ k, k < i → p k = false) (hp : p i = true) : (List.range n).find? p = some i := by
  have := find_at (p := p) (l := List.range n) (i := i) (by simpa using hi) (fun k hk => by rw [range_getD (by omega)]; exact h k hk) (by rw [range_getD hi]; exact hp)
  rwa [range_getD hi] at this
theorem range_non {n : Nat} {p : Nat → Bool} (h : ∀ k, k < n → p k = false) : (List.range n).find? p = none :=
  find_non (fun k hk => by rw [List.length_range] at hk; rw [range_getD hk]; exact h k hk)
theorem lineS_bad {t : Table} {r : Rule} (h : r.cells.length ≠ t.ins.length ∨ r.outs.length ≠ t.outs.length) : lineS t r = (⟨[], []⟩, 0, 17) := by
  unfold lineS; rw [if_pos h]
theorem lineS_ask {t : Table} {r : Rule} (h1 : r.cells.length = t.ins.length) (h2 : r.outs.length = t.outs.length) {k : Nat} (hk : k < r.cells.length) (h : ∀ j, j < k → (askR t r j).2 = 0) (he : (askR t r k).2 ≠ 0) : lineS t r = ((⟨cellL t r k, []⟩ : Line), (k : Int), (askR t r k).2) := by
  unfold lineS
  rw [if_neg (by omega), range_at (i := k) hk (fun j hj => by simp [h j hj]) (by simp [he])]
theorem lineS_tell {t : Table} {r : Rule} (h1 : r.cells.length = t.ins.length) (h2 : r.outs.length = t.outs.length) (hc : ∀ j, j < r.cells.length → (askR t r j).2 = 0) {k : Nat} (hk : k < r.outs.length) (h : ∀ j, j < k → (tellR t r j).2 = 0) (he : (tellR t r k).2 ≠ 0) : lineS t r = ((⟨cellL t r r.cells.length, outL t r k⟩ : Line), (t.ins.length : Int) + k, (tellR t r k).2) := by
  unfold lineS
  rw [if_neg (by omega), range_non (fun j hj => by simp [hc j hj])]
  dsimp only
  rw [range_at (i := k) hk (fun j hj => by simp [h j hj]) (by simp [he])]
theorem lineS_ok {t : Table} {r : Rule} (h1 : r.cells.length = t.ins.length) (h2 : r.outs.length = t.outs.length) (hc : ∀ j, j < r.cells.length → (askR t r j).2 = 0) (h : ∀ j, j < r.outs.length → (tellR t r j).2 = 0) : lineS t r = (⟨cellL t r r.cells.length, outL t r r.outs.length⟩, 0, 0) := by
  unfold lineS
  rw [if_neg (by omega), range_non (fun j hj => by simp [hc j hj])]
  dsimp only
  rw [range_non (fun j hj => by simp [h j hj])]
def eLn (r : Line × Int × Int) : AV := .tup [eLine r.1, I r.2.1, I r.2.2]
theorem view_ln {σ : Store} {a b : AV} {cs : List Cell} {xs : List Expr} {n m : Int} (ha : View σ a (eCells cs)) (hb : View σ b (eExprs xs)) : ViewL σ [.agg [a, b], I n, I m] [eLine ⟨cs, xs⟩, I n, I m] :=
  view3 (View.agg' (.cons ha (.cons hb (.nil _))))
set_option maxHeartbeats 4000000 in
theorem dtable_line (t : Table) (r : Rule) (ht : t.ins.length ≤ 2 ^ 30) (ho : t.outs.length ≤ 2 ^ 30) (ht0 : 0 < t.ins.length) (hr : (r.cells.length ≤ 2 ^ 30 ∧ ∀ s ∈ r.cells, s.length ≤ 2 ^ 30) ∧ r.outs.length ≤ 2 ^ 30 ∧ ∀ s ∈ r.outs, s.length ≤ 2 ^ 30) : CallF Tryz.prog n_dtable_line [eTable t, eRule r] (eLn (lineS t r)) := by
  obtain ⟨⟨hr1, hr2⟩, hr3, hr4⟩ := hr
  obtain ⟨E, hE⟩ : ∃ E, eLn (lineS t r) = E := ⟨_, rfl⟩
  rw [hE]
  have ca := fun k (h1 : k < t.ins.length) (h2 : k < r.cells.length) => dtable_ask t k (r.cells.getD k default) ht h1 (hr2 _ (getD_mem h2))
  have ce := fun k (h1 : k < t.outs.length) (h2 : k < r.outs.length) => dtable_tell t k (r.outs.getD k default) ht ho h1 (hr4 _ (getD_mem h2))
  simp only [show ∀ k, askS t k (r.cells.getD k default) = askR t r k from fun _ => rfl] at ca
  simp only [show ∀ k, tellS t k (r.outs.getD k default) = tellR t r k from fun _ => rfl] at ce
  simp only [eTable, cTable, eCols, eRules, eRule, eStrs] at ca ce ⊢
  by_cases hb : r.cells.length ≠ t.ins.length ∨ r.outs.length ≠ t.outs.length
  · refine CallF.of_nil (of_dtable_line (by simp) ?_) (by simp)
    unfold b_dtable_line WpR
    intro Q hQr hQn hQp
    repeat' first | refine go_ ?_ | refine br_ (fun hw => ?_) (fun hw => ?_) <;> try omega | fail
    all_goals first
      | exact ab_
      | (rw [← hE, lineS_bad hb]; exact leafN (view_ln (.nils _) (.nils _)))
  have q1 : r.cells.length = t.ins.length := by omega
  have q2 : r.outs.length = t.outs.length := by omega
  clear hb
  refine CallF.of_nil (of_dtable_line (by simp) ?_) (by simp)
  unfold b_dtable_line WpR
  intro Q hQr hQn hQp
  repeat' first | refine go_ ?_ | refine br_ (fun hw => ?_) (fun hw => ?_) <;> try omega | fail
  all_goals first | exact ab_ | skip
  with_reducible refine loop_i [5, 6, 7, 8, 9, 10, 35, 36, 37, 38, 39, 40, 41, 42, 43, 44, 45, 46, 47, 48, 49, 50, 51, 52, 53, 54, 55, 56, 57, 58] (fun q : Nat × Store => [(35, I q.1)]) (fun q => q.2) (fun q => q.1 ≤ r.cells.length ∧ (∀ k, k < q.1 → (askR t r k).2 = 0) ∧ (q.1 = 0 ∧ q.2 = [.cells [.str t.name, .lst false EC (t.ins.map eCol), .lst false EC (t.outs.map eCol), I t.policy, I t.agg, .lst false ER (t.rules.map eRule)], .cells [.lst false E1 (r.cells.map eStr), .lst false E1 (r.outs.map eStr)], .cells [.nils, .nils]] ∨ 0 < q.1 ∧ ∃ c1 τ, q.2 = .cells [.str t.name, .lst false EC (t.ins.map eCol), .lst false EC (t.outs.map eCol), I t.policy, I t.agg, .lst false ER (t.rules.map eRule)] :: .cells [.lst false E1 (r.cells.map eStr), .lst false E1 (r.outs.map eStr)] :: .cells [.own EC 4 q.1 0 q.1, .nils] :: c1 :: .vec EC ((cellL t r q.1).map eCell) :: τ)) (fun q => r.cells.length - q.1) (0, _) ⟨Nat.zero_le _, fun k hk => by omega, .inl ⟨rfl, rfl⟩⟩ rfl ?_ ?_
  · exact at_
  rintro ⟨k, S⟩ rr ⟨h1, h2, h3⟩
  dsimp only at h1 h2 h3
  rcases h3 with ⟨rfl, rfl⟩ | ⟨hk, c1, τ, rfl⟩
  · have c := ca 0 (by omega) (by omega)
    obtain ⟨a, ha⟩ : ∃ a, askR t r 0 = a := ⟨_, rfl⟩
    rw [ha] at c
    have hae := fun he => lineS_ask q1 q2 (k := 0) (by omega) h2 he
    rw [ha] at hae
    have hcl := cellL_succ t r 0
    rw [ha] at hcl
    simp only [eCell, eTests] at c
    repeat' first | refine go_ ?_ | refine cf_ c ?_ | refine br_ (fun hw => ?_) (fun hw => ?_) <;> try omega | fail
    · rw [← hE, hae (by assumption)]
      exact leafN (view_ln (.nils _) (.nils _))
    · refine ⟨(1, [.cells [.str t.name, .lst false EC (t.ins.map eCol), .lst false EC (t.outs.map eCol), I t.policy, I t.agg, .lst false ER (t.rules.map eRule)], .cells [.lst false E1 (r.cells.map eStr), .lst false E1 (r.outs.map eStr)], .cells [.own EC 4 1 0 1, .nils], .cells [.bool a.1.any, .bool a.1.neg, .lst false ES (a.1.tests.map eTest)], .vec EC [.agg [.bool a.1.any, .bool a.1.neg, .lst false ES (a.1.tests.map eTest)]]]), ?_, ?_, ?_, ou_, at_⟩ <;> (try dsimp only)
      · refine ⟨by omega, fun j hj => ?_, .inr ⟨by omega, .cells [.bool a.1.any, .bool a.1.neg, .lst false ES (a.1.tests.map eTest)], [], ?_⟩⟩
        · obtain rfl : j = 0 := by omega
          rw [ha]; assumption
        · rw [hcl]; rfl
      · omega
      all_goals rfl
  · by_cases hkl : k < r.cells.length
    · have c := ca k (by omega) (by omega)
      have hae := fun he => lineS_ask q1 q2 (k := k) (by omega) h2 he
      have hcl := cellL_succ t r k
      obtain ⟨a, ha⟩ : ∃ a, askR t r k = a := ⟨_, rfl⟩
      rw [ha] at c hae hcl
      have hll := len_cellL t r k
      have hb2 := fun he => before_succ (q := fun j => (askR t r j).2 = 0) h2 he
      obtain ⟨L, hL⟩ : ∃ L, cellL t r k = L := ⟨_, rfl⟩
      rw [hL] at hll hcl
      simp only [hL] at hae ⊢
      simp only [eCell, eTests] at c
      repeat' first | simp (disch := omega) only [go_sem, hQr, hQn, hQp, wrapK_i64, wrapK_u8, wrapK_u64, Nat.reduceAdd, Nat.reduceBEq, ↓reduceIte, hll] | refine go_ ?_ | refine cf_ c ?_ | refine br_ (fun hw => ?_) (fun hw => ?_) <;> try omega | fail
      · rw [← hE, hae (by assumption)]
        exact leafN (view_ln (View.vec rfl (by simp [hll]) (by simp [hll]) (purL_cell _)) (.nils _))
      · refine ⟨(k + 1, .cells [.str t.name, .lst false EC (t.ins.map eCol), .lst false EC (t.outs.map eCol), I t.policy, I t.agg, .lst false ER (t.rules.map eRule)] :: .cells [.lst false E1 (r.cells.map eStr), .lst false E1 (r.outs.map eStr)] :: .cells [.own EC 4 (k + 1) 0 (k + 1), .nils] :: c1 :: .vec EC (L.map eCell ++ [.agg [.bool a.1.any, .bool a.1.neg, .lst false ES (a.1.tests.map eTest)]]) :: (τ ++ [.cells [.bool a.1.any, .bool a.1.neg, .lst false ES (a.1.tests.map eTest)]])), ?_, ?_, ?_, ou_, at_⟩ <;> (try dsimp only)
        · refine ⟨by omega, hb2 (by rw [ha]; assumption), .inr ⟨by omega, c1, τ ++ [.cells [.bool a.1.any, .bool a.1.neg, .lst false ES (a.1.tests.map eTest)]], ?_⟩⟩
          rw [hcl, List.map_append]; rfl
        · omega
        all_goals rfl
    · have hkn : k = r.cells.length := by omega
      subst hkn
      have hll := len_cellL t r r.cells.length
      have hok := fun h => lineS_ok q1 q2 h2 h
      have hte := fun k (hk : k < r.outs.length) h he => lineS_tell q1 q2 h2 (k := k) hk h he
      obtain ⟨L, hL⟩ : ∃ L, cellL t r r.cells.length = L := ⟨_, rfl⟩
      rw [hL] at hll
      simp only [hL] at hok hte ⊢
      repeat' first | refine go_ ?_ | refine br_ (fun hw => ?_) (fun hw => ?_) <;> try omega | fail
      with_reducible refine loop_i [5, 6, 11, 12, 13, 14, 62, 63, 64, 65, 66, 67, 68, 69, 70, 71, 72, 73, 74, 75, 76, 77, 78, 79, 80, 81, 82, 83, 84, 85, 86, 87, 88, 89] (fun q : Nat × Store => [(62, I q.1)]) (fun q => q.2) (fun q => q.1 ≤ r.outs.length ∧ (∀ k, k < q.1 → (tellR t r k).2 = 0) ∧ (q.1 = 0 ∧ q.2 = .cells [.str t.name, .lst false EC (t.ins.map eCol), .lst false EC (t.outs.map eCol), I t.policy, I t.agg, .lst false ER (t.rules.map eRule)] :: .cells [.lst false E1 (r.cells.map eStr), .lst false E1 (r.outs.map eStr)] :: .cells [.own EC 4 r.cells.length 0 r.cells.length, .nils] :: c1 :: .vec EC (L.map eCell) :: τ ∨ 0 < q.1 ∧ ∃ p ρ, q.2 = .cells [.str t.name, .lst false EC (t.ins.map eCol), .lst false EC (t.outs.map eCol), I t.policy, I t.agg, .lst false ER (t.rules.map eRule)] :: .cells [.lst false E1 (r.cells.map eStr), .lst false E1 (r.outs.map eStr)] :: .cells [.own EC 4 r.cells.length 0 r.cells.length, .own EX (p + 1 + 1 + 1 + 1 + 1) q.1 0 q.1] :: c1 :: .vec EC (L.map eCell) :: ρ ∧ ρ[p]? = some (.vec EX ((outL t r q.1).map eExpr)))) (fun q => r.outs.length - q.1) (0, _) ⟨Nat.zero_le _, fun k hk => by omega, .inl ⟨rfl, rfl⟩⟩ rfl ?_ ?_
      · exact at_
      rintro ⟨m, S⟩ rr ⟨g1, g2, g3⟩
      dsimp only at g1 g2 g3
      rcases g3 with ⟨rfl, rfl⟩ | ⟨hm, p, ρ, rfl, hk⟩
      · by_cases hml : 0 < r.outs.length
        · have c := ce 0 (by omega) (by omega)
          have hae := fun he => hte 0 hml g2 he
          have hcl := outL_succ t r 0
          obtain ⟨a, ha⟩ : ∃ a, tellR t r 0 = a := ⟨_, rfl⟩
          rw [ha] at c hae hcl
          rw [eExpr_eq] at c
          try simp only [eExprs] at c
          repeat' first | simp (disch := omega) only [go_sem, hQr, hQn, hQp, wrapK_i64, wrapK_u8, wrapK_u64, Nat.reduceAdd, Nat.reduceBEq, ↓reduceIte, hll] | refine go_ ?_ | refine cf_ c ?_ | refine br_ (fun hw => ?_) (fun hw => ?_) <;> try omega | fail
          · rw [← hE, hae (by assumption)]
            refine leafN (view_ln (View.vec rfl (by simp [hll]) (by simp [hll]) (purL_cell _)) (.nils _))
          · refine ⟨(1, .cells [.str t.name, .lst false EC (t.ins.map eCol), .lst false EC (t.outs.map eCol), I t.policy, I t.agg, .lst false ER (t.rules.map eRule)] :: .cells [.lst false E1 (r.cells.map eStr), .lst false E1 (r.outs.map eStr)] :: .cells [.own EC 4 r.cells.length 0 r.cells.length, .own EX (τ.length + 1 + 1 + 1 + 1 + 1 + 1) 1 0 1] :: c1 :: .vec EC (L.map eCell) :: (τ ++ [.cells [I a.1.op, I a.1.v.kind, I a.1.v.n, .str a.1.v.s, .str a.1.s, .lst false EX (a.1.l.map eExpr)]] ++ [.vec EX [.agg [I a.1.op, I a.1.v.kind, I a.1.v.n, .str a.1.v.s, .str a.1.s, .lst false EX (a.1.l.map eExpr)]]])), ?_, ?_, ?_, ou_, at_⟩ <;> (try dsimp only)
            · refine ⟨by omega, fun j hj => ?_, .inr ⟨by omega, τ.length + 1, _, rfl, ?_⟩⟩
              · obtain rfl : j = 0 := by omega
                rw [ha]; assumption
              · rw [hcl, show ∀ x, [x] = [] ++ [x] from fun _ => rfl]
                simp [outL, eExpr_eq, eExprs]
            · omega
            all_goals first | rfl | (simp [go_sem]; done)
        · repeat' first | simp (disch := omega) only [go_sem, hQr, hQn, hQp, wrapK_i64, wrapK_u8, wrapK_u64, Nat.reduceAdd, Nat.reduceBEq, ↓reduceIte, hll] | refine go_ ?_ | refine br_ (fun hw => ?_) (fun hw => ?_) <;> try omega | fail
          rw [← hE, hok (fun j hj => by omega)]
          have h0 : r.outs.length = 0 := by omega
          rw [h0]
          exact leafN (view_ln (View.vec rfl (by simp [hll]) (by simp [hll]) (purL_cell _)) (.nils _))
      · have hlt := (List.getElem?_eq_some_iff.1 hk).1
        have hll2 := len_outL t r m
        have hk2 := fun d : AObj => (List.getElem?_append_left (l₁ := ρ) (l₂ := [d]) hlt).trans hk
        by_cases hml : m < r.outs.length
        · have c := ce m (by omega) (by omega)
          have hae := fun he => hte m hml g2 he
          have hcl := outL_succ t r m
          have hb2 := fun he => before_succ (q := fun j => (tellR t r j).2 = 0) g2 he
          have hs2 := fun (d w : AObj) => List.set_append_left (s := ρ) (t := [d]) p w hlt
          obtain ⟨a, ha⟩ : ∃ a, tellR t r m = a := ⟨_, rfl⟩
          rw [ha] at c hae hcl
          obtain ⟨X, hX⟩ : ∃ X, outL t r m = X := ⟨_, rfl⟩
          rw [hX] at hll2 hcl hk hae
          simp only [hX] at hk2
          rw [eExpr_eq] at c
          try simp only [eExprs] at c
          repeat' first | simp (disch := omega) only [go_sem, hQr, hQn, hQp, wrapK_i64, wrapK_u8, wrapK_u64, Nat.reduceAdd, Nat.reduceBEq, ↓reduceIte, hll, hll2, hk, hk2, hs2] | refine go_ ?_ | refine cf_ c ?_ | refine br_ (fun hw => ?_) (fun hw => ?_) <;> try omega | fail
          · rw [← hE, hae (by assumption)]
            refine leafN (view_ln (View.vec rfl (by simp [hll]) (by simp [hll]) (purL_cell _)) (View.vec (hk2 _) (by simp [hll2]) (by simp [hll2]) (purL_x _)))
          · refine ⟨(m + 1, .cells [.str t.name, .lst false EC (t.ins.map eCol), .lst false EC (t.outs.map eCol), I t.policy, I t.agg, .lst false ER (t.rules.map eRule)] :: .cells [.lst false E1 (r.cells.map eStr), .lst false E1 (r.outs.map eStr)] :: .cells [.own EC 4 r.cells.length 0 r.cells.length, .own EX (p + 1 + 1 + 1 + 1 + 1) (m + 1) 0 (m + 1)] :: c1 :: .vec EC (L.map eCell) :: (ρ.set p (.vec EX (X.map eExpr ++ [.agg [I a.1.op, I a.1.v.kind, I a.1.v.n, .str a.1.v.s, .str a.1.s, .lst false EX (a.1.l.map eExpr)]])) ++ [.cells [I a.1.op, I a.1.v.kind, I a.1.v.n, .str a.1.v.s, .str a.1.s, .lst false EX (a.1.l.map eExpr)]])), ?_, ?_, ?_, ou_, at_⟩ <;> (try dsimp only)
            · refine ⟨by omega, hb2 (by rw [ha]; assumption), .inr ⟨by omega, p, _, rfl, ?_⟩⟩
              rw [hcl, List.map_append, List.getElem?_append_left (by simpa using hlt), List.getElem?_set_self (by simpa using hlt)]
              simp [eExpr_eq, eExprs]
            · omega
            all_goals first | rfl | (simp [go_sem]; done)
        · obtain rfl : m = r.outs.length := by omega
          repeat' first | simp (disch := omega) only [go_sem, hQr, hQn, hQp, wrapK_i64, wrapK_u8, wrapK_u64, Nat.reduceAdd, Nat.reduceBEq, ↓reduceIte, hll, hll2, hk, hk2] | refine go_ ?_ | refine br_ (fun hw => ?_) (fun hw => ?_) <;> try omega | fail
          rw [← hE, hok g2]
          exact leafN (view_ln (View.vec rfl (by simp [hll]) (by simp [hll]) (purL_cell _)) (View.vec hk (by simp [hll2]) (by simp [hll2]) (purL_x _)))
end Go.Proofs.YthkhdedadacakaaGreatDoor
