/- Part of a proof: see Root. -/
import Derived.Test.YthkhdedadacakaaGreatDoorY23
set_option linter.unnecessarySimpa false
set_option linter.unusedSimpArgs false
set_option linter.unusedVariables false
namespace Go.Proofs.YthkhdedadacakaaGreatDoor
open Go.AM
set_option maxRecDepth 4000
def policyS (t : Table) : Bool :=
  if t.policy < 1 ∨ 6 < t.policy then false else if t.agg = 0 then true
  else if t.policy ≠ 5 ∨ t.agg < 1 ∨ 4 < t.agg ∨ t.outs.length ≠ 1 then false
  else decide (t.agg = 4 ∨ (t.outs.getD 0 default).kind = 1 ∨ (t.outs.getD 0 default).kind = 2 ∧ t.agg ≠ 1)
def frameS (t : Table) : Int :=
  if nameS t.name = false then 13 else if colF t.ins false ≠ 0 then colF t.ins false
  else if colF t.outs (decide (t.policy = 3)) ≠ 0 then colF t.outs (decide (t.policy = 3))
  else if policyS t = false then 17 else if 24 < t.rules.length then 24 else 0
def okTab (t : Table) : Prop := t.name.length ≤ 2 ^ 30 ∧ (t.ins.length ≤ 2 ^ 30 ∧ ∀ c ∈ t.ins, okCol c) ∧ (t.outs.length ≤ 2 ^ 30 ∧ ∀ c ∈ t.outs, okCol c) ∧
  t.rules.length ≤ 2 ^ 30 ∧ ∀ r ∈ t.rules, (r.cells.length ≤ 2 ^ 30 ∧ ∀ s ∈ r.cells, s.length ≤ 2 ^ 30) ∧ r.outs.length ≤ 2 ^ 30 ∧ ∀ s ∈ r.outs, s.length ≤ 2 ^ 30
theorem colsS_kind {l : List Col} (h : colsS l = 0) {i : Nat} (hi : i < l.length) : 1 ≤ (l.getD i default).kind ∧ (l.getD i default).kind ≤ 3 := by
  by_cases h6 : 6 < l.length
  · unfold colsS at h; rw [if_pos h6] at h; omega
  · by_cases hc : ∀ k, k < l.length → colE l k = 0
    · have := hc i hi
      unfold colE at this
      split at this
      · omega
      · split at this
        · omega
        · omega
    · exfalso
      unfold colsS at h
      rw [if_neg h6] at h
      split at h
      · rename_i j hj
        have := List.find?_some hj
        simp [h] at this
      · rename_i hn
        apply hc
        intro k hk
        have := List.find?_eq_none.1 hn k (by simpa using hk)
        simpa using this
theorem colF_zero {l : List Col} {b : Bool} (h : colF l b = 0) : colsS l = 0 ∧ 0 < l.length := by
  unfold colF at h
  split at h
  · omega
  · split at h
    · omega
    · rename_i h1 h2
      refine ⟨by omega, ?_⟩
      rcases Nat.eq_zero_or_pos l.length with h3 | h3
      · exact absurd (.inl h3) h2
      · exact h3
theorem dtable_policy (t : Table) (ho : colsS t.outs = 0) : CallF Tryz.prog n_dtable_policy [eTable t] (.bool (policyS t)) := by
  have hk := fun h => colsS_kind ho (i := 0) h
  have hS : policyS t = if t.policy < 1 ∨ 6 < t.policy then false else if t.agg = 0 then true else if t.policy ≠ 5 ∨ t.agg < 1 ∨ 4 < t.agg ∨ t.outs.length ≠ 1 then false else decide (t.agg = 4 ∨ (t.outs.getD 0 default).kind = 1 ∨ (t.outs.getD 0 default).kind = 2 ∧ t.agg ≠ 1) := rfl
  rw [hS]
  clear hS ho
  simp only [eTable, cTable, eCols, eRules]
  obtain ⟨c, hceq⟩ : ∃ c, t.outs.getD 0 default = c := ⟨_, rfl⟩
  rw [hceq] at hk ⊢
  refine CallF.of_nil (of_dtable_policy (by simp) ?_) (by simp)
  unfold b_dtable_policy WpR
  intro Q hQr hQn hQp
  repeat' first | simp (disch := omega) only [go_sem, hQr, hQn, hQp, wrapK_i64, wrapK_u8, wrapK_u64, Nat.reduceAdd, Nat.reduceBEq, ↓reduceIte, hceq] | refine go_ ?_ | refine br_ (fun hw => ?_) (fun hw => ?_) <;> try omega | fail
  all_goals (refine leafE ?_ rfl; refine congrArg AV.bool ?_; rw [Bool.eq_iff_iff]; simp_all)
  all_goals (try omega)
theorem dtable_frame (t : Table) (h : okTab t) : CallF Tryz.prog n_dtable_frame [eTable t] (I (frameS t)) := by
  obtain ⟨h1, h2, h3, h4, _⟩ := h
  have c1 := lex_Name t.name (by omega)
  have c2 := dtable_columns t.ins false (by omega) h2.2
  have c3 := dtable_columns t.outs (decide (t.policy = 3)) (by omega) h3.2
  have c4 : colF t.outs (decide (t.policy = 3)) = 0 → CallF Tryz.prog n_dtable_policy [eTable t] (.bool (policyS t)) := fun hb => dtable_policy t (colF_zero hb).1
  have hS : frameS t = if nameS t.name = false then 13 else if colF t.ins false ≠ 0 then colF t.ins false else if colF t.outs (decide (t.policy = 3)) ≠ 0 then colF t.outs (decide (t.policy = 3)) else if policyS t = false then 17 else if 24 < t.rules.length then 24 else 0 := rfl
  rw [hS]
  clear hS
  simp only [eTable, cTable, eCols, eRules] at c2 c3 c4 ⊢
  generalize nameS t.name = n at *
  generalize colF t.ins false = a at *
  generalize colF t.outs (decide (t.policy = 3)) = b at *
  generalize policyS t = p at *
  by_cases hb : b = 0
  · have c5 := c4 hb
    clear c4
    refine CallF.of_nil (of_dtable_frame (by simp) ?_) (by simp)
    unfold b_dtable_frame WpR
    intro Q hQr hQn hQp
    repeat' first | refine go_ ?_ | refine cf_ c1 ?_ | refine cf_ c2 ?_ | refine cf_ c3 ?_ | refine cf_ c5 ?_ | refine br_ (fun hw => ?_) (fun hw => ?_) <;> try omega | fail
    all_goals (refine leafE ?_ rfl; refine congrArg I ?_; simp_all)
    all_goals (try omega)
  · clear c4
    refine CallF.of_nil (of_dtable_frame (by simp) ?_) (by simp)
    unfold b_dtable_frame WpR
    intro Q hQr hQn hQp
    repeat' first | refine go_ ?_ | refine cf_ c1 ?_ | refine cf_ c2 ?_ | refine cf_ c3 ?_ | refine br_ (fun hw => ?_) (fun hw => ?_) <;> try omega | fail
    all_goals first
      | exact ab_
      | (refine leafE ?_ rfl; refine congrArg I ?_; simp_all; done)
      | (refine leafE ?_ rfl; refine congrArg I ?_; simp_all; omega)
theorem testS_ok2 {T : List Tok} (hT : okTs T) (hl : T.length ≤ 2 ^ 20) (p : Nat) (b : Bool) : okT2 (testS T p b).t := by
  have hx : ∀ p b, okX (exprR T p b).x ∧ szS (exprR T p b).x ≤ 2 ^ 30 := fun p b => ⟨(exprR_ok hT p b).1, by have := (exprR_ok hT p b).2; omega⟩
  have h0 : okX x0 ∧ szS x0 ≤ 2 ^ 30 := ⟨okX_x0, by simp [x0, szS, szL]⟩
  have h1 : ∀ k p b, okT2 (oneK k (exprR T p b)).t := fun k p b => ⟨hx p b, h0⟩
  have h2 : ∀ lo, okT2 (inR T p lo).t := fun lo => ⟨hx _ _, hx _ _⟩
  unfold testS
  split
  · exact h1 _ _ _
  split
  · exact h1 _ _ _
  split
  · exact h1 _ _ _
  split
  · exact h1 _ _ _
  split
  · exact h2 _
  split
  · exact h2 _
  · exact h1 _ _ _
theorem tests_ok2 {T : List Tok} (hT : okTs T) (hl : T.length ≤ 2 ^ 20) (f : Nat) : ∀ (acc : List Test) (p : Nat) (b : Bool), (∀ t ∈ acc, okT2 t) → (∀ t ∈ (testsF T f acc p b).ts, okT2 t) ∧ (testsF T f acc p b).ts.length ≤ acc.length + f := by
  induction f with
  | zero => intro acc p b h; exact ⟨h, Nat.le_refl _⟩
  | succ f ih =>
    intro acc p b h
    have h2 : ∀ t ∈ acc ++ [(testS T p b).t], okT2 t := fun t ht => by
      rcases List.mem_append.1 ht with ht | ht
      · exact h t ht
      · simp only [List.mem_cons, List.not_mem_nil, or_false] at ht; subst ht; exact testS_ok2 hT hl p b
    rw [testsF_succ]
    split
    · have := ih _ ((testS T p b).p + 1) (testS T p b).bad h2
      rw [List.length_append, List.length_cons, List.length_nil] at this
      exact ⟨this.1, by omega⟩
    · exact ⟨h2, by rw [List.length_append, List.length_cons, List.length_nil]; omega⟩
theorem parseC_ok2 (s : Str) : okC2 (parseC s).1 := by
  have h : okC2 ⟨false, notT (lexS s).1, (cellR (lexS s).1).ts⟩ := by
    have hf := (lexS_facts s).1
    have := tests_ok2 (lexS_ok s) (by omega) ((lexS s).1.length + 1) [] (p0C (lexS s).1) false (fun t ht => by cases ht)
    unfold cellR okC2
    rw [endC_ts]
    exact ⟨by have := this.2; simp only [List.length_nil] at this; dsimp only; omega, this.1⟩
  have h0 : okC2 c0 := ⟨Nat.zero_le _, fun t ht => by cases ht⟩
  have h1 : okC2 cAny := ⟨Nat.zero_le _, fun t ht => by cases ht⟩
  unfold parseC
  repeat' split
  all_goals first | exact h0 | exact h1 | exact h
theorem parseS_ok (s : Str) : okX (parseS s).1 ∧ szS (parseS s).1 ≤ 2 ^ 30 := by
  have h : okX (readT (lexS s).1 0 0).1 ∧ szS (readT (lexS s).1 0 0).1 ≤ 2 ^ 30 := by
    have hf := (lexS_facts s).1
    have := readT_sz (lexS s).1 0 0
    exact ⟨ok_readT (lexS_ok s) _ _, by omega⟩
  have h0 : okX x0 ∧ szS x0 ≤ 2 ^ 30 := ⟨okX_x0, by simp [x0, szS, szL]⟩
  unfold parseS
  repeat' split
  all_goals first | exact h0 | exact h
def askS (t : Table) (k : Nat) (s : Str) : Cell × Int := ((parseC s).1, if (parseC s).2.2 = 0 then typC t.ins (t.ins.getD k default).kind (parseC s).1 else (parseC s).2.2)
def tellS (t : Table) (k : Nat) (s : Str) : Expr × Int := ((parseS s).1, if (parseS s).2.2 ≠ 0 then (parseS s).2.2 else if (kindR t.ins (parseS s).1).2 = 0 ∧ fitsK (kindR t.ins (parseS s).1).1 (t.outs.getD k default).kind = false then 14 else (kindR t.ins (parseS s).1).2)
theorem dtable_ask (t : Table) (k : Nat) (s : Str) (ht : t.ins.length ≤ 2 ^ 30) (hk : k < t.ins.length) (hs : s.length ≤ 2 ^ 30) : CallF Tryz.prog n_dtable_ask [eTable t, I k, .str s] (.tup [eCell (askS t k s).1, I (askS t k s).2]) := by
  have c1 := cell_Parse s hs
  have c2 := cell_Typed t.ins (by omega) (t.ins.getD k default).kind (parseC s).1 (parseC_ok s)
  have hS : askS t k s = ((parseC s).1, if (parseC s).2.2 = 0 then typC t.ins (t.ins.getD k default).kind (parseC s).1 else (parseC s).2.2) := rfl
  rw [hS]
  clear hS
  dsimp only
  obtain ⟨cc, hcc⟩ : ∃ c, t.ins.getD k default = c := ⟨_, rfl⟩
  rw [hcc] at c2 ⊢
  generalize typC t.ins cc.kind (parseC s).1 = ty at *
  generalize parseC s = P at *
  obtain ⟨c, n, e⟩ := P
  dsimp only at c1 c2 ⊢
  simp only [eC3] at c1
  obtain ⟨C, hC⟩ : ∃ C, eCell c = C := ⟨_, rfl⟩
  have hC2 : C = .agg [.bool c.any, .bool c.neg, .lst false ES (c.tests.map eTest)] := by rw [← hC]; rfl
  simp only [eCell, eTests, eTable, cTable, eCols, eRules] at c1 c2 ⊢
  refine CallF.of_nil (of_dtable_ask (by simp) ?_) (by simp)
  unfold b_dtable_ask WpR
  intro Q hQr hQn hQp
  repeat' first | simp (disch := omega) only [go_sem, hQr, hQn, hQp, wrapK_i64, wrapK_u8, wrapK_u64, Nat.reduceAdd, Nat.reduceBEq, ↓reduceIte, hcc] | refine go_ ?_ | refine cf_ c1 ?_ | refine cf_ c2 ?_ | refine br_ (fun hw => ?_) (fun hw => ?_) <;> try omega | fail
  all_goals (refine leafNE ?_ (by simp); simp_all)
theorem dtable_tell (t : Table) (k : Nat) (s : Str) (ht : t.ins.length ≤ 2 ^ 30) (ho : t.outs.length ≤ 2 ^ 30) (hk : k < t.outs.length) (hs : s.length ≤ 2 ^ 30) : CallF Tryz.prog n_dtable_tell [eTable t, I k, .str s] (.tup [eExpr (tellS t k s).1, I (tellS t k s).2]) := by
  have c1 := syntax_Parse s hs
  have hp := parseS_ok s
  have c2 := typing_KindR t.ins (by omega) (parseS s).1 hp.1 (by have := hp.2; omega)
  have c3 := typing_Fits (kindR t.ins (parseS s).1).1 (t.outs.getD k default).kind
  have hS : tellS t k s = ((parseS s).1, if (parseS s).2.2 ≠ 0 then (parseS s).2.2 else if (kindR t.ins (parseS s).1).2 = 0 ∧ fitsK (kindR t.ins (parseS s).1).1 (t.outs.getD k default).kind = false then 14 else (kindR t.ins (parseS s).1).2) := rfl
  rw [hS]
  clear hS hp
  dsimp only
  obtain ⟨cc, hcc⟩ : ∃ c, t.outs.getD k default = c := ⟨_, rfl⟩
  rw [hcc] at c3 ⊢
  generalize fitsK (kindR t.ins (parseS s).1).1 cc.kind = fi at *
  generalize kindR t.ins (parseS s).1 = ki at *
  generalize parseS s = P at *
  obtain ⟨x, n, e⟩ := P
  dsimp only at c1 c2 ⊢
  simp only [eX3] at c1
  rw [eExpr_eq] at c1 c2 ⊢
  simp only [eExprs, eTable, cTable, eCols, eRules] at c1 c2 ⊢
  refine CallF.of_nil (of_dtable_tell (by simp) ?_) (by simp)
  unfold b_dtable_tell WpR
  intro Q hQr hQn hQp
  repeat' first | simp (disch := omega) only [go_sem, hQr, hQn, hQp, wrapK_i64, wrapK_u8, wrapK_u64, Nat.reduceAdd, Nat.reduceBEq, ↓reduceIte, hcc] | refine go_ ?_ | refine cf_ c1 ?_ | refine cf_ c2 ?_ | refine cf_ c3 ?_ | refine br_ (fun hw => ?_) (fun hw => ?_) <;> try omega | fail
  all_goals (refine leafNE ?_ (by simp); simp_all)
def askR (t : Table) (r : Rule) (k : Nat) : Cell × Int := askS t k (r.cells.getD k default)
def tellR (t : Table) (r : Rule) (k : Nat) : Expr × Int := tellS t k (r.outs.getD k default)
def cellL (t : Table) (r : Rule) (n : Nat) : List Cell := (List.range n).map fun k => (askR t r k).1
def outL (t : Table) (r : Rule) (n : Nat) : List Expr := (List.range n).map fun k => (tellR t r k).1
def lineS (t : Table) (r : Rule) : Line × Int × Int :=
  if r.cells.length ≠ t.ins.length ∨ r.outs.length ≠ t.outs.length then (⟨[], []⟩, 0, 17)
  else match (List.range r.cells.length).find? (fun k => (askR t r k).2 != 0) with
  | some k => (⟨cellL t r k, []⟩, k, (askR t r k).2)
  | none => match (List.range r.outs.length).find? (fun k => (tellR t r k).2 != 0) with
    | some k => (⟨cellL t r r.cells.length, outL t r k⟩, t.ins.length + k, (tellR t r k).2)
    | none => (⟨cellL t r r.cells.length, outL t r r.outs.length⟩, 0, 0)
theorem cellL_succ (t : Table) (r : Rule) (n : Nat) : cellL t r (n + 1) = cellL t r n ++ [(askR t r n).1] := by simp [cellL, List.range_succ]
theorem outL_succ (t : Table) (r : Rule) (n : Nat) : outL t r (n + 1) = outL t r n ++ [(tellR t r n).1] := by simp [outL, List.range_succ]
theorem len_cellL (t : Table) (r : Rule) (n : Nat) : (cellL t r n).length = n := by simp [cellL]
theorem len_outL (t : Table) (r : Rule) (n : Nat) : (outL t r n).length = n := by simp [outL]
theorem range_at {n i : Nat} {p : Nat → Bool} (hi : i < n) (h : ∀ k, k < i → p k = false) (hp : p i = true) : (List.range n).find? p = some i := by
  have := find_at (p := p) (l := List.range n) (i := i) (by simpa using hi) (fun k hk => by rw [range_getD (by omega)]; exact h k hk) (by rw [range_getD hi]; exact hp)
  rwa [range_getD hi] at this
theorem range_non {n : Nat} {p : Nat → Bool} (h : ∀ k, k < n → p k = false) : (List.range n).find? p = none :=
  find_non (fun k hk => by rw [List.length_range] at hk; rw [range_getD hk]; exact h k hk)
theorem lineS_bad {t : Table} {r : Rule} (h : r.cells.length ≠ t.ins.length ∨ r.outs.length ≠ t.outs.length) : lineS t r = (⟨[], []⟩, 0, 17) := by
  unfold lineS; rw [if_pos h]
theorem lineS_ask {t : Table} {r : Rule} (h1 : r.cells.length = t.ins.length) (h2 : r.outs.length = t.outs.length) {k : Nat} (hk : k < r.cells.length) (h : ∀ j, j < k → (askR t r j).2 = 0) (he : (askR t r k).2 ≠ 0) : lineS t r = ((⟨cellL t r k, []⟩ : Line), (k : Int), (askR t r k).2) := by
  unfold lineS
  rw [if_neg (by omega), range_at (i := k) hk (fun j hj => by simp [h j hj]) (by simp [he])]
theorem lineS_tell {t : Table} {r : Rule} (h1 : r.cells.length = t.ins.length) (h2 : r.outs.length = t.outs.length) (hc : ∀ j, j < r.cells.length → (askR t r j).2 = 0) {k : Nat} (hk : k < r.outs.length) (h : ∀ j, j < k → (tellR t r j).2 = 0) (he : (tellR t r k).2 ≠ 0) : lineS t r = ((⟨cellL t r r.cells.length, outL t r k⟩ : Line), (t.ins.length : Int) + k, (tellR t r k).2) := by
  unfold lineS
  rw [if_neg (by omega), range_non (fun j hj => by simp [hc j hj])]
  dsimp only
  rw [range_at (i := k) hk (fun j hj => by simp [h j hj]) (by simp [he])]
theorem lineS_ok {t : Table} {r : Rule} (h1 : r.cells.length = t.ins.length) (h2 : r.outs.length = t.outs.length) (hc : ∀ j, j < r.cells.length → (askR t r j).2 = 0) (h : ∀ j, j < r.outs.length → (tellR t r j).2 = 0) : lineS t r = (⟨cellL t r r.cells.length, outL t r r.outs.length⟩, 0, 0) := by
  unfold lineS
  rw [if_neg (by omega), range_non (fun j hj => by simp [hc j hj])]
  dsimp only
  rw [range_non (fun j hj => by simp [h j hj])]
def eLn (r : Line × Int × Int) : AV := .tup [eLine r.1, I r.2.1, I r.2.2]
theorem view_ln {σ : Store} {a b : AV} {cs : List Cell} {xs : List Expr} {n m : Int} (ha : View σ a (eCells cs)) (hb : View σ b (eExprs xs)) : ViewL σ [.agg [a, b], I n, I m] [eLine ⟨cs, xs⟩, I n, I m] :=
  view3 (View.agg' (.cons ha (.cons hb (.nil _))))
set_option maxHeartbeats 4000000 in
theorem dtable_line (t : Table) (r : Rule) (ht : t.ins.length ≤ 2 ^ 30) (ho : t.outs.length ≤ 2 ^ 30) (ht0 : 0 < t.ins.length) (hr : (r.cells.length ≤ 2 ^ 30 ∧ ∀ s ∈ r.cells, s.length ≤ 2 ^ 30) ∧ r.outs.length ≤ 2 ^ 30 ∧ ∀ s ∈ r.outs, s.length ≤ 2 ^ 30) : CallF Tryz.prog n_dtable_line [eTable t, eRule r] (eLn (lineS t r)) := by
  obtain ⟨⟨hr1, hr2⟩, hr3, hr4⟩ := hr
  obtain ⟨E, hE⟩ : ∃ E, eLn (lineS t r) = E := ⟨_, rfl⟩
  rw [hE]
  have ca := fun k (h1 : k < t.ins.length) (h2 : k < r.cells.length) => dtable_ask t k (r.cells.getD k default) ht h1 (hr2 _ (getD_mem h2))
  have ce := fun k (h1 : k < t.outs.length) (h2 : k < r.outs.length) => dtable_tell t k (r.outs.getD k default) ht ho h1 (hr4 _ (getD_mem h2))
  simp only [show ∀ k, askS t k (r.cells.getD k default) = askR t r k from fun _ => rfl] at ca
  simp only [show ∀ k, tellS t k (r.outs.getD k default) = tellR t r k from fun _ => rfl] at ce
  simp only [eTable, cTable, eCols, eRules, eRule, eStrs] at ca ce ⊢
  by_cases hb : r.cells.length ≠ t.ins.length ∨ r.outs.length ≠ t.outs.length
  · refine CallF.of_nil (of_dtable_line (by simp) ?_) (by simp)
    unfold b_dtable_line WpR
    intro Q hQr hQn hQp
    repeat' first | refine go_ ?_ | refine br_ (fun hw => ?_) (fun hw => ?_) <;> try omega | fail
    all_goals first
      | exact ab_
      | (rw [← hE, lineS_bad hb]; exact leafN (view_ln (.nils _) (.nils _)))
  have q1 : r.cells.length = t.ins.length := by omega
  have q2 : r.outs.length = t.outs.length := by omega
  clear hb
  refine CallF.of_nil (of_dtable_line (by simp) ?_) (by simp)
  unfold b_dtable_line WpR
  intro Q hQr hQn hQp
  repeat' first | refine go_ ?_ | refine br_ (fun hw => ?_) (fun hw => ?_) <;> try omega | fail
  all_goals first | exact ab_ | skip
  with_reducible refine loop_i [5, 6, 7, 8, 9, 10, 35, 36, 37, 38, 39, 40, 41, 42, 43, 44, 45, 46, 47, 48, 49, 50, 51, 52, 53, 54, 55, 56, 57, 58] (fun q : Nat × Store => [(35, I q.1)]) (fun q => q.2) (fun q => q.1 ≤ r.cells.length ∧ (∀ k, k < q.1 → (askR t r k).2 = 0) ∧ (q.1 = 0 ∧ q.2 = [.cells [.str t.name, .lst false EC (t.ins.map eCol), .lst false EC (t.outs.map eCol), I t.policy, I t.agg, .lst false ER (t.rules.map eRule)], .cells [.lst false E1 (r.cells.map eStr), .lst false E1 (r.outs.map eStr)], .cells [.nils, .nils]] ∨ 0 < q.1 ∧ ∃ c1 τ, q.2 = .cells [.str t.name, .lst false EC (t.ins.map eCol), .lst false EC (t.outs.map eCol), I t.policy, I t.agg, .lst false ER (t.rules.map eRule)] :: .cells [.lst false E1 (r.cells.map eStr), .lst false E1 (r.outs.map eStr)] :: .cells [.own EC 4 q.1 0 q.1, .nils] :: c1 :: .vec EC ((cellL t r q.1).map eCell) :: τ)) (fun q => r.cells.length - q.1) (0, _) ⟨Nat.zero_le _, fun k hk => by omega, .inl ⟨rfl, rfl⟩⟩ rfl ?_ ?_
  · exact at_
  rintro ⟨k, S⟩ rr ⟨h1, h2, h3⟩
  dsimp only at h1 h2 h3
  rcases h3 with ⟨rfl, rfl⟩ | ⟨hk, c1, τ, rfl⟩
  · have c := ca 0 (by omega) (by omega)
    obtain ⟨a, ha⟩ : ∃ a, askR t r 0 = a := ⟨_, rfl⟩
    rw [ha] at c
    have hae := fun he => lineS_ask q1 q2 (k := 0) (by omega) h2 he
    rw [ha] at hae
    have hcl := cellL_succ t r 0
    rw [ha] at hcl
    simp only [eCell, eTests] at c
    repeat' first | refine go_ ?_ | refine cf_ c ?_ | refine br_ (fun hw => ?_) (fun hw => ?_) <;> try omega | fail
    · rw [← hE, hae (by assumption)]
      exact leafN (view_ln (.nils _) (.nils _))
    · refine ⟨(1, [.cells [.str t.name, .lst false EC (t.ins.map eCol), .lst false EC (t.outs.map eCol), I t.policy, I t.agg, .lst false ER (t.rules.map eRule)], .cells [.lst false E1 (r.cells.map eStr), .lst false E1 (r.outs.map eStr)], .cells [.own EC 4 1 0 1, .nils], .cells [.bool a.1.any, .bool a.1.neg, .lst false ES (a.1.tests.map eTest)], .vec EC [.agg [.bool a.1.any, .bool a.1.neg, .lst false ES (a.1.tests.map eTest)]]]), ?_, ?_, ?_, ou_, at_⟩ <;> (try dsimp only)
      · refine ⟨by omega, fun j hj => ?_, .inr ⟨by omega, .cells [.bool a.1.any, .bool a.1.neg, .lst false ES (a.1.tests.map eTest)], [], ?_⟩⟩
        · obtain rfl : j = 0 := by omega
          rw [ha]; assumption
        · rw [hcl]; rfl
      · omega
      all_goals rfl
  · by_cases hkl : k < r.cells.length
    · have c := ca k (by omega) (by omega)
      have hae := fun he => lineS_ask q1 q2 (k := k) (by omega) h2 he
      have hcl := cellL_succ t r k
      obtain ⟨a, ha⟩ : ∃ a, askR t r k = a := ⟨_, rfl⟩
      rw [ha] at c hae hcl
      have hll := len_cellL t r k
      have hb2 := fun he => before_succ (q := fun j => (askR t r j).2 = 0) h2 he
      obtain ⟨L, hL⟩ : ∃ L, cellL t r k = L := ⟨_, rfl⟩
      rw [hL] at hll hcl
      simp only [hL] at hae ⊢
      simp only [eCell, eTests] at c
      repeat' first | simp (disch := omega) only [go_sem, hQr, hQn, hQp, wrapK_i64, wrapK_u8, wrapK_u64, Nat.reduceAdd, Nat.reduceBEq, ↓reduceIte, hll] | refine go_ ?_ | refine cf_ c ?_ | refine br_ (fun hw => ?_) (fun hw => ?_) <;> try omega | fail
      · rw [← hE, hae (by assumption)]
        exact leafN (view_ln (View.vec rfl (by simp [hll]) (by simp [hll]) (purL_cell _)) (.nils _))
      · refine ⟨(k + 1, .cells [.str t.name, .lst false EC (t.ins.map eCol), .lst false EC (t.outs.map eCol), I t.policy, I t.agg, .lst false ER (t.rules.map eRule)] :: .cells [.lst false E1 (r.cells.map eStr), .lst false E1 (r.outs.map eStr)] :: .cells [.own EC 4 (k + 1) 0 (k + 1), .nils] :: c1 :: .vec EC (L.map eCell ++ [.agg [.bool a.1.any, .bool a.1.neg, .lst false ES (a.1.tests.map eTest)]]) :: (τ ++ [.cells [.bool a.1.any, .bool a.1.neg, .lst false ES (a.1.tests.map eTest)]])), ?_, ?_, ?_, ou_, at_⟩ <;> (try dsimp only)
        · refine ⟨by omega, hb2 (by rw [ha]; assumption), .inr ⟨by omega, c1, τ ++ [.cells [.bool a.1.any, .bool a.1.neg, .lst false ES (a.1.tests.map eTest)]], ?_⟩⟩
          rw [hcl, List.map_append]; rfl
        · omega
        all_goals rfl
    · have hkn : k = r.cells.length := by omega
      subst hkn
      have hll := len_cellL t r r.cells.length
      have hok := fun h => lineS_ok q1 q2 h2 h
      have hte := fun k (hk : k < r.outs.length) h he => lineS_tell q1 q2 h2 (k := k) hk h he
      obtain ⟨L, hL⟩ : ∃ L, cellL t r r.cells.length = L := ⟨_, rfl⟩
      rw [hL] at hll
      simp only [hL] at hok hte ⊢
      repeat' first | refine go_ ?_ | refine br_ (fun hw => ?_) (fun hw => ?_) <;> try omega | fail
      with_reducible refine loop_i [5, 6, 11, 12, 13, 14, 62, 63, 64, 65, 66, 67, 68, 69, 70, 71, 72, 73, 74, 75, 76, 77, 78, 79, 80, 81, 82, 83, 84, 85, 86, 87, 88, 89] (fun q : Nat × Store => [(62, I q.1)]) (fun q => q.2) (fun q => q.1 ≤ r.outs.length ∧ (∀ k, k < q.1 → (tellR t r k).2 = 0) ∧ (q.1 = 0 ∧ q.2 = .cells [.str t.name, .lst false EC (t.ins.map eCol), .lst false EC (t.outs.map eCol), I t.policy, I t.agg, .lst false ER (t.rules.map eRule)] :: .cells [.lst false E1 (r.cells.map eStr), .lst false E1 (r.outs.map eStr)] :: .cells [.own EC 4 r.cells.length 0 r.cells.length, .nils] :: c1 :: .vec EC (L.map eCell) :: τ ∨ 0 < q.1 ∧ ∃ p ρ, q.2 = .cells [.str t.name, .lst false EC (t.ins.map eCol), .lst false EC (t.outs.map eCol), I t.policy, I t.agg, .lst false ER (t.rules.map eRule)] :: .cells [.lst false E1 (r.cells.map eStr), .lst false E1 (r.outs.map eStr)] :: .cells [.own EC 4 r.cells.length 0 r.cells.length, .own EX (p + 1 + 1 + 1 + 1 + 1) q.1 0 q.1] :: c1 :: .vec EC (L.map eCell) :: ρ ∧ ρ[p]? = some (.vec EX ((outL t r q.1).map eExpr)))) (fun q => r.outs.length - q.1) (0, _) ⟨Nat.zero_le _, fun k hk => by omega, .inl ⟨rfl, rfl⟩⟩ rfl ?_ ?_
      · exact at_
      rintro ⟨m, S⟩ rr ⟨g1, g2, g3⟩
      dsimp only at g1 g2 g3
      rcases g3 with ⟨rfl, rfl⟩ | ⟨hm, p, ρ, rfl, hk⟩
      · by_cases hml : 0 < r.outs.length
        · have c := ce 0 (by omega) (by omega)
          have hae := fun he => hte 0 hml g2 he
          have hcl := outL_succ t r 0
          obtain ⟨a, ha⟩ : ∃ a, tellR t r 0 = a := ⟨_, rfl⟩
          rw [ha] at c hae hcl
          rw [eExpr_eq] at c
          try simp only [eExprs] at c
          repeat' first | simp (disch := omega) only [go_sem, hQr, hQn, hQp, wrapK_i64, wrapK_u8, wrapK_u64, Nat.reduceAdd, Nat.reduceBEq, ↓reduceIte, hll] | refine go_ ?_ | refine cf_ c ?_ | refine br_ (fun hw => ?_) (fun hw => ?_) <;> try omega | fail
          · rw [← hE, hae (by assumption)]
            refine leafN (view_ln (View.vec rfl (by simp [hll]) (by simp [hll]) (purL_cell _)) (.nils _))
          · refine ⟨(1, .cells [.str t.name, .lst false EC (t.ins.map eCol), .lst false EC (t.outs.map eCol), I t.policy, I t.agg, .lst false ER (t.rules.map eRule)] :: .cells [.lst false E1 (r.cells.map eStr), .lst false E1 (r.outs.map eStr)] :: .cells [.own EC 4 r.cells.length 0 r.cells.length, .own EX (τ.length + 1 + 1 + 1 + 1 + 1 + 1) 1 0 1] :: c1 :: .vec EC (L.map eCell) :: (τ ++ [.cells [I a.1.op, I a.1.v.kind, I a.1.v.n, .str a.1.v.s, .str a.1.s, .lst false EX (a.1.l.map eExpr)]] ++ [.vec EX [.agg [I a.1.op, I a.1.v.kind, I a.1.v.n, .str a.1.v.s, .str a.1.s, .lst false EX (a.1.l.map eExpr)]]])), ?_, ?_, ?_, ou_, at_⟩ <;> (try dsimp only)
            · refine ⟨by omega, fun j hj => ?_, .inr ⟨by omega, τ.length + 1, _, rfl, ?_⟩⟩
              · obtain rfl : j = 0 := by omega
                rw [ha]; assumption
              · rw [hcl, show ∀ x, [x] = [] ++ [x] from fun _ => rfl]
                simp [outL, eExpr_eq, eExprs]
            · omega
            all_goals first | rfl | (simp [go_sem]; done)
        · repeat' first | simp (disch := omega) only [go_sem, hQr, hQn, hQp, wrapK_i64, wrapK_u8, wrapK_u64, Nat.reduceAdd, Nat.reduceBEq, ↓reduceIte, hll] | refine go_ ?_ | refine br_ (fun hw => ?_) (fun hw => ?_) <;> try omega | fail
          rw [← hE, hok (fun j hj => by omega)]
          have h0 : r.outs.length = 0 := by omega
          rw [h0]
          exact leafN (view_ln (View.vec rfl (by simp [hll]) (by simp [hll]) (purL_cell _)) (.nils _))
      · have hlt := (List.getElem?_eq_some_iff.1 hk).1
        have hll2 := len_outL t r m
        have hk2 := fun d : AObj => (List.getElem?_append_left (l₁ := ρ) (l₂ := [d]) hlt).trans hk
        by_cases hml : m < r.outs.length
        · have c := ce m (by omega) (by omega)
          have hae := fun he => hte m hml g2 he
          have hcl := outL_succ t r m
          have hb2 := fun he => before_succ (q := fun j => (tellR t r j).2 = 0) g2 he
          have hs2 := fun (d w : AObj) => List.set_append_left (s := ρ) (t := [d]) p w hlt
          obtain ⟨a, ha⟩ : ∃ a, tellR t r m = a := ⟨_, rfl⟩
          rw [ha] at c hae hcl
          obtain ⟨X, hX⟩ : ∃ X, outL t r m = X := ⟨_, rfl⟩
          rw [hX] at hll2 hcl hk hae
          simp only [hX] at hk2
          rw [eExpr_eq] at c
          try simp only [eExprs] at c
          repeat' first | simp (disch := omega) only [go_sem, hQr, hQn, hQp, wrapK_i64, wrapK_u8, wrapK_u64, Nat.reduceAdd, Nat.reduceBEq, ↓reduceIte, hll, hll2, hk, hk2, hs2] | refine go_ ?_ | refine cf_ c ?_ | refine br_ (fun hw => ?_) (fun hw => ?_) <;> try omega | fail
          · rw [← hE, hae (by assumption)]
            refine leafN (view_ln (View.vec rfl (by simp [hll]) (by simp [hll]) (purL_cell _)) (View.vec (hk2 _) (by simp [hll2]) (by simp [hll2]) (purL_x _)))
          · refine ⟨(m + 1, .cells [.str t.name, .lst false EC (t.ins.map eCol), .lst false EC (t.outs.map eCol), I t.policy, I t.agg, .lst false ER (t.rules.map eRule)] :: .cells [.lst false E1 (r.cells.map eStr), .lst false E1 (r.outs.map eStr)] :: .cells [.own EC 4 r.cells.length 0 r.cells.length, .own EX (p + 1 + 1 + 1 + 1 + 1) (m + 1) 0 (m + 1)] :: c1 :: .vec EC (L.map eCell) :: (ρ.set p (.vec EX (X.map eExpr ++ [.agg [I a.1.op, I a.1.v.kind, I a.1.v.n, .str a.1.v.s, .str a.1.s, .lst false EX (a.1.l.map eExpr)]])) ++ [.cells [I a.1.op, I a.1.v.kind, I a.1.v.n, .str a.1.v.s, .str a.1.s, .lst false EX (a.1.l.map eExpr)]])), ?_, ?_, ?_, ou_, at_⟩ <;> (try dsimp only)
            · refine ⟨by omega, hb2 (by rw [ha]; assumption), .inr ⟨by omega, p, _, rfl, ?_⟩⟩
              rw [hcl, List.map_append, List.getElem?_append_left (by simpa using hlt), List.getElem?_set_self (by simpa using hlt)]
              simp [eExpr_eq, eExprs]
            · omega
            all_goals first | rfl | (simp [go_sem]; done)
        · obtain rfl : m = r.outs.length := by omega
          repeat' first | simp (disch := omega) only [go_sem, hQr, hQn, hQp, wrapK_i64, wrapK_u8, wrapK_u64, Nat.reduceAdd, Nat.reduceBEq, ↓reduceIte, hll, hll2, hk, hk2] | refine go_ ?_ | refine br_ (fun hw => ?_) (fun hw => ?_) <;> try omega | fail
          rw [← hE, hok g2]
          exact leafN (view_ln (View.vec rfl (by simp [hll]) (by simp [hll]) (purL_cell _)) (View.vec hk (by simp [hll2]) (by simp [hll2]) (purL_x _)))
def lineR (t : Table) (k : Nat) : Line × Int × Int := lineS t (t.rules.getD k default)
def lineL (t : Table) (n : Nat) : List Line := (List.range n).map fun k => (lineR t k).1
def ready0 : Ready := ⟨⟨[], [], [], 0, 0, []⟩, []⟩
def makeS (t : Table) : Ready × Int × Int × Int :=
  if frameS t ≠ 0 then (ready0, -1, 0, frameS t)
  else match (List.range t.rules.length).find? (fun k => (lineR t k).2.2 != 0) with
  | some k => (ready0, k, (lineR t k).2.1, (lineR t k).2.2)
  | none => (⟨t, lineL t t.rules.length⟩, 0, 0, 0)
def eR4 (r : Ready × Int × Int × Int) : AV := .tup [eReady r.1, I r.2.1, I r.2.2.1, I r.2.2.2]
theorem lineL_succ (t : Table) (n : Nat) : lineL t (n + 1) = lineL t n ++ [(lineR t n).1] := by simp [lineL, List.range_succ]
theorem len_lineL (t : Table) (n : Nat) : (lineL t n).length = n := by simp [lineL]
theorem makeS_frame {t : Table} (h : frameS t ≠ 0) : makeS t = (ready0, (-1 : Int), (0 : Int), frameS t) := by unfold makeS; rw [if_pos h]
theorem makeS_line {t : Table} (h0 : frameS t = 0) {k : Nat} (hk : k < t.rules.length) (h : ∀ j, j < k → (lineR t j).2.2 = 0) (he : (lineR t k).2.2 ≠ 0) : makeS t = (ready0, (k : Int), (lineR t k).2.1, (lineR t k).2.2) := by
  unfold makeS
  rw [if_neg (by omega), range_at (i := k) hk (fun j hj => by simp [h j hj]) (by simp [he])]
theorem makeS_ok {t : Table} (h0 : frameS t = 0) (h : ∀ j, j < t.rules.length → (lineR t j).2.2 = 0) : makeS t = ((⟨t, lineL t t.rules.length⟩ : Ready), (0 : Int), (0 : Int), (0 : Int)) := by
  unfold makeS
  rw [if_neg (by omega), range_non (fun j hj => by simp [h j hj])]
theorem frameS_ins {t : Table} (h : frameS t = 0) : 0 < t.ins.length := by
  unfold frameS at h
  split at h
  · omega
  split at h
  · omega
  · rename_i h1 h2
    exact (colF_zero (by omega : colF t.ins false = 0)).2
theorem view4 {σ : Store} {a E : AV} {n m k : Int} (h : View σ a E) : ViewL σ [a, I n, I m, I k] [E, I n, I m, I k] := .cons h (.cons (.refl _ rfl) (.cons (.refl _ rfl) (.cons (.refl _ rfl) (.nil _))))
theorem view_r0 (σ : Store) : View σ (.agg [.str [], .nils, .nils, I 0, I 0, .nils, .nils]) (eReady ready0) :=
  View.agg' (.cons (.refl _ rfl) (.cons (.nils _) (.cons (.nils _) (.cons (.refl _ rfl) (.cons (.refl _ rfl) (.cons (.nils _) (.cons (.nils _) (.nil _))))))))
set_option maxHeartbeats 4000000 in
theorem dtable_Make (t : Table) (h : okTab t) : CallF Tryz.prog n_dtable_Make [eTable t] (eR4 (makeS t)) := by
  have cf := dtable_frame t h
  obtain ⟨E, hE⟩ : ∃ E, eR4 (makeS t) = E := ⟨_, rfl⟩
  rw [hE]
  have hl := fun (h0 : 0 < t.ins.length) k (hk : k < t.rules.length) => dtable_line t (t.rules.getD k default) h.2.1.1 h.2.2.1.1 h0 (h.2.2.2.2 _ (getD_mem hk))
  have hr30 := h.2.2.2.1
  simp only [eTable, cTable, eCols, eRules] at cf hl ⊢
  by_cases hf : frameS t ≠ 0
  · have hm := makeS_frame hf
    obtain ⟨f, hfe⟩ : ∃ f, frameS t = f := ⟨_, rfl⟩
    rw [hfe] at cf hm hf
    refine CallF.of_nil (of_dtable_Make (by simp) ?_) (by simp)
    unfold b_dtable_Make WpR
    intro Q hQr hQn hQp
    repeat' first | refine go_ ?_ | refine cf_ cf ?_ | refine br_ (fun hw => ?_) (fun hw => ?_) <;> try omega | fail
    all_goals first
      | exact ab_
      | (rw [← hE, hm]; exact leafN (view4 (view_r0 _)))
  have hf0 : frameS t = 0 := by omega
  have hi0 : 0 < t.ins.length := frameS_ins hf0
  rw [hf0] at cf
  replace hl := hl hi0
  clear hf
  refine CallF.of_nil (of_dtable_Make (by simp) ?_) (by simp)
  unfold b_dtable_Make WpR
  intro Q hQr hQn hQp
  repeat' first | refine go_ ?_ | refine cf_ cf ?_ | refine br_ (fun hw => ?_) (fun hw => ?_) <;> try omega | fail
  all_goals first | exact ab_ | skip
  with_reducible refine loop_i [3, 4, 5, 8, 9, 10, 11, 12, 24, 25, 26, 27, 28, 29, 30, 31, 32, 33, 34, 35, 36, 37, 38, 39, 40, 41, 42, 43, 44, 45, 46, 47, 48] (fun q : Nat × Store => [(24, I q.1)]) (fun q => q.2) (fun q => q.1 ≤ t.rules.length ∧ (∀ k, k < q.1 → (lineR t k).2.2 = 0) ∧ (q.1 = 0 ∧ q.2 = [.cells [.str t.name, .lst false EC (t.ins.map eCol), .lst false EC (t.outs.map eCol), I t.policy, I t.agg, .lst false ER (t.rules.map eRule)], .cells [.str [], .nils, .nils, I 0, I 0, .nils, .nils], .cells [.str t.name, .lst false EC (t.ins.map eCol), .lst false EC (t.outs.map eCol), I t.policy, I t.agg, .lst false ER (t.rules.map eRule), .nils]] ∨ 0 < q.1 ∧ ∃ b1 b2 τ, q.2 = .cells [.str t.name, .lst false EC (t.ins.map eCol), .lst false EC (t.outs.map eCol), I t.policy, I t.agg, .lst false ER (t.rules.map eRule)] :: .cells [.str [], .nils, .nils, I 0, I 0, .nils, .nils] :: .cells [.str t.name, .lst false EC (t.ins.map eCol), .lst false EC (t.outs.map eCol), I t.policy, I t.agg, .lst false ER (t.rules.map eRule), .own ER 5 q.1 0 q.1] :: b1 :: b2 :: .vec ER ((lineL t q.1).map eLine) :: τ)) (fun q => t.rules.length - q.1) (0, _) ⟨Nat.zero_le _, fun k hk => by omega, .inl ⟨rfl, rfl⟩⟩ rfl ?_ ?_
  · exact at_
  rintro ⟨k, S⟩ rr ⟨h1, h2, h3⟩
  dsimp only at h1 h2 h3
  by_cases hkl : k < t.rules.length
  · have c := hl k hkl
    have hae := fun he => makeS_line hf0 hkl h2 he
    have hcl := lineL_succ t k
    have hll := len_lineL t k
    have hb2 := fun he => before_succ (q := fun j => (lineR t j).2.2 = 0) h2 he
    have hlr : lineR t k = lineS t (t.rules.getD k default) := rfl
    obtain ⟨a, ha⟩ : ∃ a, lineR t k = a := ⟨_, rfl⟩
    rw [ha] at hae hcl hb2 hlr
    rw [← hlr] at c
    obtain ⟨ru, hru⟩ : ∃ ru, t.rules.getD k default = ru := ⟨_, rfl⟩
    rw [hru] at c
    clear hlr
    simp only [eLn, eLine, eCells, eExprs, eRule, eStrs] at c
    rcases h3 with ⟨rfl, rfl⟩ | ⟨hk, b1, b2, τ, rfl⟩
    · repeat' first | simp (disch := omega) only [go_sem, hQr, hQn, hQp, wrapK_i64, wrapK_u8, wrapK_u64, Nat.reduceAdd, Nat.reduceBEq, ↓reduceIte, hru] | refine go_ ?_ | refine cf_ c ?_ | refine br_ (fun hw => ?_) (fun hw => ?_) <;> try omega | fail
      · rw [← hE, hae (by assumption)]
        exact leafN (view4 (view_r0 _))
      · refine ⟨(1, [.cells [.str t.name, .lst false EC (t.ins.map eCol), .lst false EC (t.outs.map eCol), I t.policy, I t.agg, .lst false ER (t.rules.map eRule)], .cells [.str [], .nils, .nils, I 0, I 0, .nils, .nils], .cells [.str t.name, .lst false EC (t.ins.map eCol), .lst false EC (t.outs.map eCol), I t.policy, I t.agg, .lst false ER (t.rules.map eRule), .own ER 5 1 0 1], .cells [.lst false E1 (ru.cells.map eStr), .lst false E1 (ru.outs.map eStr)], .cells [.lst false EC (a.1.cells.map eCell), .lst false EX (a.1.outs.map eExpr)], .vec ER [.agg [.lst false EC (a.1.cells.map eCell), .lst false EX (a.1.outs.map eExpr)]]]), ?_, ?_, ?_, ou_, at_⟩ <;> (try dsimp only)
        · refine ⟨by omega, hb2 (by assumption), .inr ⟨by omega, .cells [.lst false E1 (ru.cells.map eStr), .lst false E1 (ru.outs.map eStr)], .cells [.lst false EC (a.1.cells.map eCell), .lst false EX (a.1.outs.map eExpr)], [], ?_⟩⟩
          rw [hcl]; rfl
        · omega
        all_goals first | rfl | (simp [go_sem]; done)
    · obtain ⟨L, hL⟩ : ∃ L, lineL t k = L := ⟨_, rfl⟩
      rw [hL] at hll hcl
      simp only [hL]
      repeat' first | simp (disch := omega) only [go_sem, hQr, hQn, hQp, wrapK_i64, wrapK_u8, wrapK_u64, Nat.reduceAdd, Nat.reduceBEq, ↓reduceIte, hru, hll] | refine go_ ?_ | refine cf_ c ?_ | refine br_ (fun hw => ?_) (fun hw => ?_) <;> try omega | fail
      · rw [← hE, hae (by assumption)]
        exact leafN (view4 (view_r0 _))
      · refine ⟨(k + 1, .cells [.str t.name, .lst false EC (t.ins.map eCol), .lst false EC (t.outs.map eCol), I t.policy, I t.agg, .lst false ER (t.rules.map eRule)] :: .cells [.str [], .nils, .nils, I 0, I 0, .nils, .nils] :: .cells [.str t.name, .lst false EC (t.ins.map eCol), .lst false EC (t.outs.map eCol), I t.policy, I t.agg, .lst false ER (t.rules.map eRule), .own ER 5 (k + 1) 0 (k + 1)] :: b1 :: b2 :: .vec ER (L.map eLine ++ [.agg [.lst false EC (a.1.cells.map eCell), .lst false EX (a.1.outs.map eExpr)]]) :: (τ ++ [.cells [.lst false E1 (ru.cells.map eStr), .lst false E1 (ru.outs.map eStr)]] ++ [.cells [.lst false EC (a.1.cells.map eCell), .lst false EX (a.1.outs.map eExpr)]])), ?_, ?_, ?_, ou_, at_⟩ <;> (try dsimp only)
        · refine ⟨by omega, hb2 (by assumption), .inr ⟨by omega, b1, b2, τ ++ [.cells [.lst false E1 (ru.cells.map eStr), .lst false E1 (ru.outs.map eStr)]] ++ [.cells [.lst false EC (a.1.cells.map eCell), .lst false EX (a.1.outs.map eExpr)]], ?_⟩⟩
          rw [hcl, List.map_append]; (first | rfl | (simp [eLine, eCells, eExprs]; done))
        · omega
        all_goals first | rfl | (simp [go_sem]; done)
  · obtain rfl : k = t.rules.length := by omega
    have hok := makeS_ok hf0 h2
    rcases h3 with ⟨h0, rfl⟩ | ⟨hk, b1, b2, τ, rfl⟩
    · repeat' first | refine go_ ?_ | refine br_ (fun hw => ?_) (fun hw => ?_) <;> try omega | fail
      rw [← hE, hok, h0]
      exact leafN (view4 (View.agg' (.cons (.refl _ rfl) (.cons (.refl _ (pur_eCols _)) (.cons (.refl _ (pur_eCols _)) (.cons (.refl _ rfl) (.cons (.refl _ rfl) (.cons (.refl _ (pur_eRules _)) (.cons (.nils _) (.nil _))))))))))
    · have hll := len_lineL t t.rules.length
      obtain ⟨L, hL⟩ : ∃ L, lineL t t.rules.length = L := ⟨_, rfl⟩
      rw [hL] at hll hok
      simp only [hL]
      repeat' first | simp (disch := omega) only [go_sem, hQr, hQn, hQp, wrapK_i64, wrapK_u8, wrapK_u64, Nat.reduceAdd, Nat.reduceBEq, ↓reduceIte, hll] | refine go_ ?_ | refine br_ (fun hw => ?_) (fun hw => ?_) <;> try omega | fail
      rw [← hE, hok]
      exact leafN (view4 (View.agg' (.cons (.refl _ rfl) (.cons (.refl _ (pur_eCols _)) (.cons (.refl _ (pur_eCols _)) (.cons (.refl _ rfl) (.cons (.refl _ rfl) (.cons (.refl _ (pur_eRules _)) (.cons (View.vec rfl (by simp [hll]) (by simp [hll]) (purL_line _)) (.nil _))))))))))
def sameCol (a b : Col) : Bool := a.name == b.name && decide (a.kind = b.kind) && eqL (fun x y => x == y) a.order b.order
def sameRule (a b : Rule) : Bool := eqL (fun x y => x == y) a.cells b.cells && eqL (fun x y => x == y) a.outs b.outs
def sameTab (a b : Table) : Bool := a.name == b.name && decide (a.policy = b.policy) && decide (a.agg = b.agg) && eqL sameCol a.ins b.ins && eqL sameCol a.outs b.outs && eqL sameRule a.rules b.rules
def sameLn (a b : Line) : Bool := eqL sameC a.cells b.cells && eqL sameS a.outs b.outs
def sameRdy (a b : Ready) : Bool := sameTab a.table b.table && eqL sameLn a.lines b.lines
def smCols (l : List Col) : Prop := l.length ≤ 2 ^ 60 ∧ ∀ c ∈ l, c.order.length ≤ 2 ^ 60
def smRule (r : Rule) : Prop := r.cells.length ≤ 2 ^ 60 ∧ r.outs.length ≤ 2 ^ 60
def smTab (t : Table) : Prop := smCols t.ins ∧ smCols t.outs ∧ t.rules.length ≤ 2 ^ 60 ∧ ∀ r ∈ t.rules, smRule r
def smLn (l : Line) : Prop := (l.cells.length ≤ 2 ^ 60 ∧ ∀ c ∈ l.cells, smC c) ∧ l.outs.length ≤ 2 ^ 60 ∧ ∀ x ∈ l.outs, brX x
def smLns (l : List Line) : Prop := l.length ≤ 2 ^ 60 ∧ ∀ x ∈ l, smLn x
theorem dtable_sameColumn (a b : Col) (ha : a.order.length ≤ 2 ^ 60) (hb : b.order.length ≤ 2 ^ 60) : CallF Tryz.prog n_dtable_sameColumn [eCol a, eCol b] (.bool (sameCol a b)) := by
  have c := slices_Equal_Value a.order b.order ha hb
  have hS : sameCol a b = (a.name == b.name && decide (a.kind = b.kind) && eqL (fun x y => x == y) a.order b.order) := rfl
  rw [hS]
  clear hS
  generalize eqL (fun x y => x == y) a.order b.order = v at *
  simp only [eCol, eVals] at c ⊢
  refine CallF.of_nil (of_dtable_sameColumn (by simp) ?_) (by simp)
  unfold b_dtable_sameColumn WpR
  intro Q hQr hQn hQp
  repeat' first | refine go_ ?_ | refine cf_ c ?_ | refine br_ (fun hw => ?_) (fun hw => ?_) <;> try omega | fail
  all_goals (refine leafE ?_ rfl; refine congrArg AV.bool ?_; rw [Bool.eq_iff_iff]; simp_all)
theorem dtable_sameRule (a b : Rule) (ha : smRule a) (hb : smRule b) : CallF Tryz.prog n_dtable_sameRule [eRule a, eRule b] (.bool (sameRule a b)) := by
  have c1 := slices_Equal_string a.cells b.cells ha.1 hb.1
  have c2 := slices_Equal_string a.outs b.outs ha.2 hb.2
  have hS : sameRule a b = (eqL (fun x y => x == y) a.cells b.cells && eqL (fun x y => x == y) a.outs b.outs) := rfl
  rw [hS]
  clear hS
  generalize eqL (fun x y => x == y) a.cells b.cells = v at *
  generalize eqL (fun x y => x == y) a.outs b.outs = u at *
  simp only [eRule, eStrs] at c1 c2 ⊢
  refine CallF.of_nil (of_dtable_sameRule (by simp) ?_) (by simp)
  unfold b_dtable_sameRule WpR
  intro Q hQr hQn hQp
  repeat' first | refine go_ ?_ | refine cf_ c1 ?_ | refine cf_ c2 ?_ | refine br_ (fun hw => ?_) (fun hw => ?_) <;> try omega | fail
  all_goals (refine leafE ?_ rfl; refine congrArg AV.bool ?_; rw [Bool.eq_iff_iff]; simp_all)
theorem dtable_SameReady_1 (a b : Line) (ha : smLn a) (hb : smLn b) : CallF Tryz.prog n_dtable_SameReady_1 [eLine a, eLine b] (.bool (sameLn a b)) := by
  have c1 := slices_EqualFunc_Cell n_cell_Same [] rfl sameC a.cells b.cells (fun k h1 h2 => cell_Same _ _ (ha.1.2 _ (getD_mem h1)) (hb.1.2 _ (getD_mem h2))) (by have := ha.1.1; omega) (by have := hb.1.1; omega)
  have c2 := slices_EqualFunc_Expr n_syntax_Same [] rfl sameS a.outs b.outs (fun k h1 h2 => syntax_Same _ _ (ha.2.2 _ (getD_mem h1)) (hb.2.2 _ (getD_mem h2))) (by have := ha.2.1; omega) (by have := hb.2.1; omega)
  have hS : sameLn a b = (eqL sameC a.cells b.cells && eqL sameS a.outs b.outs) := rfl
  rw [hS]
  clear hS
  generalize eqL sameC a.cells b.cells = v at *
  generalize eqL sameS a.outs b.outs = u at *
  simp only [eLine, eCells, eExprs] at c1 c2 ⊢
  refine CallF.of_nil (of_dtable_SameReady_1 (by simp) ?_) (by simp)
  unfold b_dtable_SameReady_1 WpR
  intro Q hQr hQn hQp
  repeat' first | refine go_ ?_ | refine cf_ c1 ?_ | refine cf_ c2 ?_ | refine br_ (fun hw => ?_) (fun hw => ?_) <;> try omega | fail
  all_goals (refine leafE ?_ rfl; refine congrArg AV.bool ?_; rw [Bool.eq_iff_iff]; simp_all)
theorem ref18_sameColumns (l m : List Col) (hl : smCols l) (hm : smCols m) : CallF Tryz.prog n_ref18_sameColumns [eCols l, eCols m] (.bool (eqL sameCol l m)) := by
  obtain ⟨hl1, hl2⟩ := hl
  obtain ⟨hm1, hm2⟩ := hm
  simp only [eCols]
  refine CallF.of_nil (of_ref18_sameColumns (by simp) ?_) (by simp)
  unfold b_ref18_sameColumns WpR
  intro Q hQr hQn hQp
  repeat' first | refine go_ ?_ | refine br_ (fun hw => ?_) (fun hw => ?_) <;> try omega | fail
  · refine leafE ?_ rfl
    rw [eqL_len (by omega)]
  have hlm : l.length = m.length := by omega
  with_reducible refine loop_i [4, 5, 11, 12, 13, 14, 15, 16, 17, 18, 19, 20, 21, 22, 23, 24, 25, 26, 27, 28, 29, 30, 31, 32, 33, 34, 35, 36, 37, 38, 39, 40, 41, 42, 43, 44, 45, 46, 47, 48, 49, 50, 51, 52, 53, 54] (fun i : Nat => [(5, I i)]) (fun _ => []) (fun i => i ≤ l.length ∧ ∀ k, k < i → sameCol (l.getD k default) (m.getD k default) = true) (fun i => l.length - i) (0) ?_ ?_ ?_ ?_
  · simp
  · rfl
  · exact at_
  rintro i r ⟨h1, h2⟩
  by_cases hi : i < l.length
  · have hi' : i < m.length := by omega
    have hne : sameCol (l.getD i default) (m.getD i default) = false → eqL sameCol l m = false := fun h => eqL_at hi h hi'
    have hbs := fun he => before_succ h2 (i := i) he
    have c := ref12_SameRow (l.getD i default).order (m.getD i default).order (hl2 _ (getD_mem hi)) (hm2 _ (getD_mem hi'))
    obtain ⟨a, haq⟩ : ∃ t, l.getD i default = t := ⟨_, rfl⟩
    obtain ⟨b, hbq⟩ : ∃ t, m.getD i default = t := ⟨_, rfl⟩
    rw [haq] at hne hbs c
    rw [hbq] at hne hbs c
    simp only [sameCol] at hne hbs
    generalize eqL (fun x y => x == y) a.order b.order = v at *
    simp only [eVals] at c
    repeat' first | simp (disch := omega) only [go_sem, hQr, hQn, hQp, wrapK_i64, wrapK_u8, wrapK_u64, Nat.reduceAdd, Nat.reduceBEq, ↓reduceIte, haq, hbq] | refine go_ ?_ | refine cf_ c ?_ | refine br_ (fun hw => ?_) (fun hw => ?_) <;> try omega | fail
    all_goals first
      | (refine leafE ?_ rfl; rw [hne (by clear hne hbs; simp_all)]; done)
      | (refine ⟨i + 1, ?_, ?_, ?_, ou_, at_⟩ <;> (try dsimp only)
         · exact ⟨by omega, hbs (by clear hne hbs; simp_all)⟩
         · omega
         all_goals (first | rfl | (simp [go_sem]; done)))
      | exact ab_
  · repeat' first | refine go_ ?_ | refine br_ (fun hw => ?_) (fun hw => ?_) <;> try omega | fail
    refine leafE ?_ rfl
    rw [eqL_non hlm (fun k hk => h2 k (by omega))]
theorem dtable_Same (a b : Table) (ha : smTab a) (hb : smTab b) : CallF Tryz.prog n_dtable_Same [eTable a, eTable b] (.bool (sameTab a b)) := by
  have c1 := slices_EqualFunc_Column n_dtable_sameColumn [] rfl sameCol a.ins b.ins (fun k h1 h2 => dtable_sameColumn _ _ (ha.1.2 _ (getD_mem h1)) (hb.1.2 _ (getD_mem h2))) (by have := ha.1.1; omega) (by have := hb.1.1; omega)
  have c2 := slices_EqualFunc_Column n_dtable_sameColumn [] rfl sameCol a.outs b.outs (fun k h1 h2 => dtable_sameColumn _ _ (ha.2.1.2 _ (getD_mem h1)) (hb.2.1.2 _ (getD_mem h2))) (by have := ha.2.1.1; omega) (by have := hb.2.1.1; omega)
  have c3 := slices_EqualFunc_Rule n_dtable_sameRule [] rfl sameRule a.rules b.rules (fun k h1 h2 => dtable_sameRule _ _ (ha.2.2.2 _ (getD_mem h1)) (hb.2.2.2 _ (getD_mem h2))) (by have := ha.2.2.1; omega) (by have := hb.2.2.1; omega)
  have hS : sameTab a b = (a.name == b.name && decide (a.policy = b.policy) && decide (a.agg = b.agg) && eqL sameCol a.ins b.ins && eqL sameCol a.outs b.outs && eqL sameRule a.rules b.rules) := rfl
  generalize eqL sameCol a.ins b.ins = v1 at *
  generalize eqL sameCol a.outs b.outs = v2 at *
  generalize eqL sameRule a.rules b.rules = v3 at *
  obtain ⟨E, hE⟩ : ∃ E, sameTab a b = E := ⟨_, rfl⟩
  rw [hE] at hS ⊢
  clear hE
  simp only [eTable, cTable, eCols, eRules] at c1 c2 c3 ⊢
  refine CallF.of_nil (of_dtable_Same (by simp) ?_) (by simp)
  unfold b_dtable_Same WpR
  intro Q hQr hQn hQp
  dsimp (config := { zeta := true }) only
  repeat' first | refine go_ ?_ | refine cf_ c1 ?_ | refine cf_ c2 ?_ | refine cf_ c3 ?_ | refine br_ (fun hw => ?_) (fun hw => ?_) <;> try omega | fail
  all_goals first
    | exact ab_
    | (refine leafE ?_ rfl; refine congrArg AV.bool ?_; rw [hS, Bool.eq_iff_iff]; simp_all; done)
theorem dtable_SameReady (a b : Ready) (ha : smTab a.table ∧ smLns a.lines) (hb : smTab b.table ∧ smLns b.lines) : CallF Tryz.prog n_dtable_SameReady [eReady a, eReady b] (.bool (sameRdy a b)) := by
  have c1 := dtable_Same a.table b.table ha.1 hb.1
  have c2 := slices_EqualFunc_Line n_dtable_SameReady_1 [] rfl sameLn a.lines b.lines (fun k h1 h2 => dtable_SameReady_1 _ _ (ha.2.2 _ (getD_mem h1)) (hb.2.2 _ (getD_mem h2))) (by have := ha.2.1; omega) (by have := hb.2.1; omega)
  have hS : sameRdy a b = (sameTab a.table b.table && eqL sameLn a.lines b.lines) := rfl
  rw [hS]
  clear hS
  generalize sameTab a.table b.table = v at *
  generalize eqL sameLn a.lines b.lines = u at *
  simp only [eReady, eTable, cTable, eCols, eRules, eLines] at c1 c2 ⊢
  refine CallF.of_nil (of_dtable_SameReady (by simp) ?_) (by simp)
  unfold b_dtable_SameReady WpR
  intro Q hQr hQn hQp
  repeat' first | refine go_ ?_ | refine cf_ c1 ?_ | refine cf_ c2 ?_ | refine br_ (fun hw => ?_) (fun hw => ?_) <;> try omega | fail
  all_goals (refine leafE ?_ rfl; refine congrArg AV.bool ?_; rw [Bool.eq_iff_iff]; simp_all)
end Go.Proofs.YthkhdedadacakaaGreatDoor
