/- Part of a proof: see Root. -/
import Derived.Test.YthkhdedadacakaaGreatDoorY24
set_option linter.unnecessarySimpa false
set_option linter.unusedSimpArgs false
set_option linter.unusedVariables false
namespace Go.Proofs.YthkhdedadacakaaGreatDoor
open Go.AM
set_option maxRecDepth 4000
theorem ref18_sameLine (a b : Line) (ha : smLn a) (hb : smLn b) : CallF Tryz.prog n_ref18_sameLine [eLine a, eLine b] (.bool (sameLn a b)) := by
  obtain ⟨⟨a1, a2⟩, a3, a4⟩ := ha
  obtain ⟨⟨b1, b2⟩, b3, b4⟩ := hb
  obtain ⟨E, hE⟩ : ∃ E, sameLn a b = E := ⟨_, rfl⟩
  rw [hE]
  have hS : (eqL sameC a.cells b.cells && eqL sameS a.outs b.outs) = E := hE
  clear hE
  simp only [eLine, eCells, eExprs]
  by_cases hl : a.cells.length = b.cells.length ∧ a.outs.length = b.outs.length
  case neg =>
    refine CallF.of_nil (of_ref18_sameLine (by simp) ?_) (by simp)
    unfold b_ref18_sameLine WpR
    intro Q hQr hQn hQp
    repeat' first | refine go_ ?_ | refine br_ (fun hw => ?_) (fun hw => ?_) <;> try omega | fail
    all_goals first
      | exact ab_
      | (refine leafE ?_ rfl; rw [← hS, eqL_len (l := a.cells) (by omega)]; rfl)
      | (refine leafE ?_ rfl; rw [← hS, eqL_len (l := a.outs) (by omega), Bool.and_false])
  obtain ⟨hl1, hl2⟩ := hl
  refine CallF.of_nil (of_ref18_sameLine (by simp) ?_) (by simp)
  unfold b_ref18_sameLine WpR
  intro Q hQr hQn hQp
  repeat' first | refine go_ ?_ | refine br_ (fun hw => ?_) (fun hw => ?_) <;> try omega | fail
  all_goals first | exact ab_ | skip
  with_reducible refine loop_i [4, 5, 23, 24, 25, 26, 27, 28, 29, 30, 31, 32, 33, 34, 35, 36, 37, 38, 39, 40, 41] (fun i : Nat => [(5, I i)]) (fun _ => [.cells [.lst false EC (a.cells.map eCell), .lst false EX (a.outs.map eExpr)], .cells [.lst false EC (b.cells.map eCell), .lst false EX (b.outs.map eExpr)]]) (fun i => i ≤ a.cells.length ∧ ∀ k, k < i → sameC (a.cells.getD k default) (b.cells.getD k default) = true) (fun i => a.cells.length - i) (0) ?_ ?_ ?_ ?_
  · simp
  · rfl
  · exact at_
  rintro i r ⟨h1, h2⟩
  by_cases hi : i < a.cells.length
  · have c := ref17_Same _ _ (a2 _ (getD_mem hi)) (b2 _ (getD_mem (show i < b.cells.length by omega)))
    have hne := fun h => eqL_at (p := sameC) hi h (show i < b.cells.length by omega)
    have hbs := fun he => before_succ (q := fun k => sameC (a.cells.getD k default) (b.cells.getD k default) = true) h2 (i := i) he
    generalize sameC (a.cells.getD i default) (b.cells.getD i default) = v at c hne hbs
    simp only [eCell, eTests] at c
    repeat' first | refine go_ ?_ | refine cf_ c ?_ | refine br_ (fun hw => ?_) (fun hw => ?_) <;> try omega | fail
    all_goals first
      | exact ab_
      | (refine leafE ?_ rfl; rw [← hS, hne (by simp_all)]; rfl)
      | (refine ⟨i + 1, ?_, ?_, ?_, ou_, at_⟩ <;> (try dsimp only)
         · exact ⟨by omega, hbs (by simp_all)⟩
         · omega
         all_goals (first | rfl | (simp [go_sem]; done)))
  · have e1 := eqL_non hl1 (p := sameC) (fun k hk => h2 k (by omega))
    rw [e1, Bool.true_and] at hS
    repeat' first | refine go_ ?_ | refine br_ (fun hw => ?_) (fun hw => ?_) <;> try omega | fail
    with_reducible refine loop_i [4, 6, 42, 43, 44, 45, 46, 47, 48, 49, 50, 51, 52, 53, 54, 55, 56, 57, 58, 59, 60] (fun i : Nat => [(6, I i)]) (fun _ => [.cells [.lst false EC (a.cells.map eCell), .lst false EX (a.outs.map eExpr)], .cells [.lst false EC (b.cells.map eCell), .lst false EX (b.outs.map eExpr)]]) (fun i => i ≤ a.outs.length ∧ ∀ k, k < i → sameS (a.outs.getD k default) (b.outs.getD k default) = true) (fun i => a.outs.length - i) (0) ?_ ?_ ?_ ?_
    · simp
    · rfl
    · exact at_
    rintro j r2 ⟨g1, g2⟩
    by_cases hj : j < a.outs.length
    · have c := ref14_Same _ _ (a4 _ (getD_mem hj)) (b4 _ (getD_mem (show j < b.outs.length by omega)))
      have hne := fun h => eqL_at (p := sameS) hj h (show j < b.outs.length by omega)
      have hbs := fun he => before_succ (q := fun k => sameS (a.outs.getD k default) (b.outs.getD k default) = true) g2 (i := j) he
      generalize sameS (a.outs.getD j default) (b.outs.getD j default) = v at c hne hbs
      rw [eExpr_eq, eExpr_eq] at c
      try simp only [eExprs] at c
      repeat' first | refine go_ ?_ | refine cf_ c ?_ | refine br_ (fun hw => ?_) (fun hw => ?_) <;> try omega | fail
      all_goals first
        | exact ab_
        | (refine leafE ?_ rfl; rw [← hS, hne (by simp_all)])
        | (refine ⟨j + 1, ?_, ?_, ?_, ou_, at_⟩ <;> (try dsimp only)
           · exact ⟨by omega, hbs (by simp_all)⟩
           · omega
           all_goals (first | rfl | (simp [go_sem]; done)))
    · repeat' first | refine go_ ?_ | refine br_ (fun hw => ?_) (fun hw => ?_) <;> try omega | fail
      refine leafE ?_ rfl
      rw [← hS, eqL_non hl2 (fun k hk => g2 k (by omega))]
theorem ref18_SameLines (l m : List Line) (hl : smLns l) (hm : smLns m) : CallF Tryz.prog n_ref18_SameLines [eLines l, eLines m] (.bool (eqL sameLn l m)) := by
  obtain ⟨hl1, hl2⟩ := hl
  obtain ⟨hm1, hm2⟩ := hm
  simp only [eLines]
  refine CallF.of_nil (of_ref18_SameLines (by simp) ?_) (by simp)
  unfold b_ref18_SameLines WpR
  intro Q hQr hQn hQp
  repeat' first | refine go_ ?_ | refine br_ (fun hw => ?_) (fun hw => ?_) <;> try omega | fail
  · refine leafE ?_ rfl
    rw [eqL_len (by omega)]
  have hlm : l.length = m.length := by omega
  with_reducible refine loop_i [4, 5, 11, 12, 13, 14, 15, 16, 17, 18, 19, 20, 21, 22, 23, 24, 25, 26] (fun i : Nat => [(5, I i)]) (fun _ => []) (fun i => i ≤ l.length ∧ ∀ k, k < i → sameLn (l.getD k default) (m.getD k default) = true) (fun i => l.length - i) (0) ?_ ?_ ?_ ?_
  · simp
  · rfl
  · exact at_
  rintro i r ⟨h1, h2⟩
  by_cases hi : i < l.length
  · have c := ref18_sameLine _ _ (hl2 _ (getD_mem hi)) (hm2 _ (getD_mem (show i < m.length by omega)))
    have hne := fun h => eqL_at (p := sameLn) hi h (show i < m.length by omega)
    have hbs := fun he => before_succ (q := fun k => sameLn (l.getD k default) (m.getD k default) = true) h2 (i := i) he
    generalize sameLn (l.getD i default) (m.getD i default) = v at c hne hbs
    simp only [eLine, eCells, eExprs] at c
    repeat' first | refine go_ ?_ | refine cf_ c ?_ | refine br_ (fun hw => ?_) (fun hw => ?_) <;> try omega | fail
    all_goals first
      | exact ab_
      | (refine leafE ?_ rfl; rw [hne (by simp_all)])
      | (refine ⟨i + 1, ?_, ?_, ?_, ou_, at_⟩ <;> (try dsimp only)
         · exact ⟨by omega, hbs (by simp_all)⟩
         · omega
         all_goals (first | rfl | (simp [go_sem]; done)))
  · repeat' first | refine go_ ?_ | refine br_ (fun hw => ?_) (fun hw => ?_) <;> try omega | fail
    refine leafE ?_ rfl
    rw [eqL_non hlm (fun k hk => h2 k (by omega))]
theorem ref18_Same (a b : Table) (ha : smTab a) (hb : smTab b) : CallF Tryz.prog n_ref18_Same [eTable a, eTable b] (.bool (sameTab a b)) := by
  obtain ⟨a1, a2, a3, a4⟩ := ha
  obtain ⟨b1, b2, b3, b4⟩ := hb
  have c1 := ref18_sameColumns a.ins b.ins a1 b1
  have c2 := ref18_sameColumns a.outs b.outs a2 b2
  obtain ⟨E, hE⟩ : ∃ E, sameTab a b = E := ⟨_, rfl⟩
  rw [hE]
  have hS : (a.name == b.name && decide (a.policy = b.policy) && decide (a.agg = b.agg) && eqL sameCol a.ins b.ins && eqL sameCol a.outs b.outs && eqL sameRule a.rules b.rules) = E := hE
  clear hE
  generalize eqL sameCol a.ins b.ins = v1 at c1 hS
  generalize eqL sameCol a.outs b.outs = v2 at c2 hS
  simp only [eTable, cTable, eCols, eRules] at c1 c2 ⊢
  by_cases h0 : a.name = b.name ∧ a.policy = b.policy ∧ a.agg = b.agg ∧ a.rules.length = b.rules.length
  case neg =>
    have hE : E = false := by
      rw [← hS, Bool.eq_false_iff]
      intro h
      simp only [Bool.and_eq_true, beq_iff_eq, decide_eq_true_eq] at h
      obtain ⟨⟨⟨⟨⟨g1, g2⟩, g3⟩, g4⟩, g5⟩, g6⟩ := h
      refine h0 ⟨g1, g2, g3, ?_⟩
      by_cases hl : a.rules.length = b.rules.length
      · exact hl
      · rw [eqL_len hl] at g6; cases g6
    subst hE
    clear hS c1 c2
    refine CallF.of_nil (of_ref18_Same (by simp) ?_) (by simp)
    unfold b_ref18_Same WpR
    intro Q hQr hQn hQp
    repeat' first | refine go_ ?_ | refine br_ (fun hw => ?_) (fun hw => ?_) <;> try omega | fail
    all_goals first
      | exact leafE rfl rfl
      | exact ab_
      | (exfalso; apply h0; refine ⟨?_, ?_, ?_, ?_⟩ <;> first | assumption | omega | simp_all)
  obtain ⟨g1, g2, g3, hlm⟩ := h0
  rw [g1, g2, g3, beq_self_eq_true, decide_eq_true rfl, decide_eq_true rfl, Bool.true_and, Bool.true_and, Bool.true_and] at hS
  refine CallF.of_nil (of_ref18_Same (by simp) ?_) (by simp)
  unfold b_ref18_Same WpR
  intro Q hQr hQn hQp
  repeat' first | simp (disch := omega) only [go_sem, hQr, hQn, hQp, wrapK_i64, wrapK_u8, wrapK_u64, Nat.reduceAdd, Nat.reduceBEq, ↓reduceIte, g1, g2, g3] | refine go_ ?_ | refine br_ (fun hw => ?_) (fun hw => ?_) <;> try omega | fail
  all_goals first | (exfalso; omega) | exact ab_ | skip
  with_reducible refine loop_i [4, 5, 34, 35, 36, 37, 38, 39, 40, 41, 42, 43, 44, 45, 46, 47, 48, 49, 50, 51, 52, 53, 54, 55, 56, 57, 58, 59, 60, 61, 62, 63, 64, 65, 66, 67, 68, 69, 70] (fun i : Nat => [(5, I i)]) (fun _ => [.cells [.str b.name, .lst false EC (a.ins.map eCol), .lst false EC (a.outs.map eCol), I b.policy, I b.agg, .lst false ER (a.rules.map eRule)], .cells [.str b.name, .lst false EC (b.ins.map eCol), .lst false EC (b.outs.map eCol), I b.policy, I b.agg, .lst false ER (b.rules.map eRule)]]) (fun i => i ≤ a.rules.length ∧ ∀ k, k < i → sameRule (a.rules.getD k default) (b.rules.getD k default) = true) (fun i => a.rules.length - i) (0) ?_ ?_ ?_ ?_
  · simp
  · rfl
  · exact at_
  rintro i r ⟨h1, h2⟩
  by_cases hi : i < a.rules.length
  · have hi' : i < b.rules.length := by omega
    have k1 := ref01_SameTexts _ _ (a4 _ (getD_mem hi)).1 (b4 _ (getD_mem hi')).1
    have k2 := ref01_SameTexts _ _ (a4 _ (getD_mem hi)).2 (b4 _ (getD_mem hi')).2
    have hne := fun h => eqL_at (p := sameRule) hi h hi'
    have hbs := fun he => before_succ (q := fun k => sameRule (a.rules.getD k default) (b.rules.getD k default) = true) h2 (i := i) he
    obtain ⟨x, hx⟩ : ∃ x, a.rules.getD i default = x := ⟨_, rfl⟩
    obtain ⟨y, hy⟩ : ∃ y, b.rules.getD i default = y := ⟨_, rfl⟩
    rw [hx] at k1 k2 hne hbs
    rw [hy] at k1 k2 hne hbs
    simp only [sameRule] at hne hbs
    generalize eqL (fun x y => x == y) x.cells y.cells = w1 at k1 hne hbs
    generalize eqL (fun x y => x == y) x.outs y.outs = w2 at k2 hne hbs
    simp only [eStrs] at k1 k2
    repeat' first | simp (disch := omega) only [go_sem, hQr, hQn, hQp, wrapK_i64, wrapK_u8, wrapK_u64, Nat.reduceAdd, Nat.reduceBEq, ↓reduceIte, hx, hy] | refine go_ ?_ | refine cf_ k1 ?_ | refine cf_ k2 ?_ | refine br_ (fun hw => ?_) (fun hw => ?_) <;> try omega | fail
    all_goals first
      | exact ab_
      | (refine leafE ?_ rfl; rw [← hS, hne (by clear hne hbs hS; simp_all), Bool.and_false]; done)
      | (refine ⟨i + 1, ?_, ?_, ?_, ou_, at_⟩ <;> (try dsimp only)
         · exact ⟨by omega, hbs (by clear hne hbs hS; simp_all)⟩
         · omega
         all_goals (first | rfl | (simp [go_sem]; done)))
  · rw [eqL_non hlm (fun k hk => h2 k (by omega)), Bool.and_true] at hS
    repeat' first | refine go_ ?_ | refine cf_ c1 ?_ | refine cf_ c2 ?_ | refine br_ (fun hw => ?_) (fun hw => ?_) <;> try omega | fail
    all_goals first
      | exact ab_
      | (refine leafE ?_ rfl; rw [← hS]; simp_all; done)
theorem ref18_SameReady (a b : Ready) (ha : smTab a.table ∧ smLns a.lines) (hb : smTab b.table ∧ smLns b.lines) : CallF Tryz.prog n_ref18_SameReady [eReady a, eReady b] (.bool (sameRdy a b)) := by
  have c1 := ref18_Same a.table b.table ha.1 hb.1
  have c2 := ref18_SameLines a.lines b.lines ha.2 hb.2
  have hS : sameRdy a b = (sameTab a.table b.table && eqL sameLn a.lines b.lines) := rfl
  rw [hS]
  clear hS
  generalize sameTab a.table b.table = v at *
  generalize eqL sameLn a.lines b.lines = u at *
  simp only [eReady, eTable, cTable, eCols, eRules, eLines] at c1 c2 ⊢
  refine CallF.of_nil (of_ref18_SameReady (by simp) ?_) (by simp)
  unfold b_ref18_SameReady WpR
  intro Q hQr hQn hQp
  repeat' first | refine go_ ?_ | refine cf_ c1 ?_ | refine cf_ c2 ?_ | refine br_ (fun hw => ?_) (fun hw => ?_) <;> try omega | fail
  all_goals (refine leafE ?_ rfl; refine congrArg AV.bool ?_; rw [Bool.eq_iff_iff]; simp_all)
def cellTx (l : Line) (m : Nat) : Str × Int := textC (l.cells.getD m default)
def outTx (l : Line) (m : Nat) : Str × Int := textX (l.outs.getD m default)
def cellsT (l : Line) (n : Nat) : List Str := (List.range n).map fun m => (cellTx l m).1
def outsT (l : Line) (n : Nat) : List Str := (List.range n).map fun m => (outTx l m).1
theorem cellsT_succ (l : Line) (n : Nat) : cellsT l (n + 1) = cellsT l n ++ [(cellTx l n).1] := by simp [cellsT, List.range_succ]
theorem outsT_succ (l : Line) (n : Nat) : outsT l (n + 1) = outsT l n ++ [(outTx l n).1] := by simp [outsT, List.range_succ]
theorem len_cellsT (l : Line) (n : Nat) : (cellsT l n).length = n := by simp [cellsT]
theorem len_outsT (l : Line) (n : Nat) : (outsT l n).length = n := by simp [outsT]
def rowS (w : Nat) (l : Line) : Rule × Int × Int :=
  match (List.range l.cells.length).find? (fun m => (cellTx l m).2 != 0) with
  | some m => (⟨cellsT l l.cells.length, outsT l l.outs.length⟩, m, (cellTx l m).2)
  | none => match (List.range l.outs.length).find? (fun m => (outTx l m).2 != 0) with
    | some m => (⟨cellsT l l.cells.length, outsT l l.outs.length⟩, w + m, (outTx l m).2)
    | none => (⟨cellsT l l.cells.length, outsT l l.outs.length⟩, 0, 0)
def table0 : Table := ⟨[], [], [], 0, 0, []⟩
def lineN (t : Table) (n : Nat) : Line := (makeS t).1.lines.getD n default
def rowN (t : Table) (n : Nat) : Rule × Int × Int := rowS t.ins.length (lineN t n)
def rowsL (t : Table) (n : Nat) : List Rule := (List.range n).map fun k => (rowN t k).1
def cleanS (t : Table) : Table × Int × Int × Int :=
  if (makeS t).2.2.2 ≠ 0 then (table0, (makeS t).2.1, (makeS t).2.2.1, (makeS t).2.2.2)
  else match (List.range (makeS t).1.lines.length).find? (fun n => (rowN t n).2.2 != 0) with
  | some n => (table0, n, (rowN t n).2.1, (rowN t n).2.2)
  | none => ({ t with rules := rowsL t (makeS t).1.lines.length }, 0, 0, 0)
def eT4 (r : Table × Int × Int × Int) : AV := .tup [eTable r.1, I r.2.1, I r.2.2.1, I r.2.2.2]
theorem rowsL_succ (t : Table) (n : Nat) : rowsL t (n + 1) = rowsL t n ++ [(rowN t n).1] := by simp [rowsL, List.range_succ]
theorem len_rowsL (t : Table) (n : Nat) : (rowsL t n).length = n := by simp [rowsL]
theorem rowS_1 (w : Nat) (l : Line) : (rowS w l).1 = ⟨cellsT l l.cells.length, outsT l l.outs.length⟩ := by
  unfold rowS; split
  · rfl
  · split <;> rfl
theorem rowS_cell (w : Nat) {l : Line} {m : Nat} (hm : m < l.cells.length) (h : ∀ j, j < m → (cellTx l j).2 = 0) (he : (cellTx l m).2 ≠ 0) : (rowS w l).2 = ((m : Int), (cellTx l m).2) := by
  unfold rowS; rw [range_at (i := m) hm (fun j hj => by simp [h j hj]) (by simp [he])]
theorem rowS_out (w : Nat) {l : Line} (hc : ∀ j, j < l.cells.length → (cellTx l j).2 = 0) {m : Nat} (hm : m < l.outs.length) (h : ∀ j, j < m → (outTx l j).2 = 0) (he : (outTx l m).2 ≠ 0) : (rowS w l).2 = ((w : Int) + m, (outTx l m).2) := by
  unfold rowS
  rw [range_non (fun j hj => by simp [hc j hj])]
  dsimp only
  rw [range_at (i := m) hm (fun j hj => by simp [h j hj]) (by simp [he])]
theorem rowS_ok (w : Nat) {l : Line} (hc : ∀ j, j < l.cells.length → (cellTx l j).2 = 0) (h : ∀ j, j < l.outs.length → (outTx l j).2 = 0) : (rowS w l).2 = (0, 0) := by
  unfold rowS
  rw [range_non (fun j hj => by simp [hc j hj])]
  dsimp only
  rw [range_non (fun j hj => by simp [h j hj])]
theorem cleanS_make {t : Table} (h : (makeS t).2.2.2 ≠ 0) : cleanS t = (table0, (makeS t).2.1, (makeS t).2.2.1, (makeS t).2.2.2) := by unfold cleanS; rw [if_pos h]
theorem cleanS_row {t : Table} (h0 : (makeS t).2.2.2 = 0) {n : Nat} (hn : n < (makeS t).1.lines.length) (h : ∀ j, j < n → (rowN t j).2.2 = 0) (he : (rowN t n).2.2 ≠ 0) : cleanS t = (table0, (n : Int), (rowN t n).2.1, (rowN t n).2.2) := by
  unfold cleanS
  rw [if_neg (by omega), range_at (i := n) hn (fun j hj => by simp [h j hj]) (by simp [he])]
theorem cleanS_ok {t : Table} (h0 : (makeS t).2.2.2 = 0) (h : ∀ j, j < (makeS t).1.lines.length → (rowN t j).2.2 = 0) : cleanS t = ({ t with rules := rowsL t (makeS t).1.lines.length }, 0, 0, 0) := by
  unfold cleanS
  rw [if_neg (by omega), range_non (fun j hj => by simp [h j hj])]
def okLine (l : Line) : Prop := (l.cells.length ≤ 2 ^ 30 ∧ ∀ c ∈ l.cells, okC2 c) ∧ l.outs.length ≤ 2 ^ 30 ∧ ∀ x ∈ l.outs, okX x ∧ szS x ≤ 2 ^ 30
theorem makeS_zero {t : Table} (h : (makeS t).2.2.2 = 0) : frameS t = 0 ∧ (∀ j, j < t.rules.length → (lineR t j).2.2 = 0) ∧ makeS t = ((⟨t, lineL t t.rules.length⟩ : Ready), (0 : Int), (0 : Int), (0 : Int)) := by
  by_cases hf : frameS t = 0
  · have hl : ∀ j, j < t.rules.length → (lineR t j).2.2 = 0 := by
      cases hq : (List.range t.rules.length).find? (fun k => (lineR t k).2.2 != 0) with
      | some k =>
        exfalso
        unfold makeS at h
        rw [if_neg (by omega), hq] at h
        have := List.find?_some hq
        simp at this
        exact this h
      | none =>
        intro j hj
        have := List.find?_eq_none.1 hq j (List.mem_range.2 hj)
        simpa using this
    exact ⟨hf, hl, makeS_ok hf hl⟩
  · rw [makeS_frame hf] at h; exact absurd h hf
theorem lineS_okL (t : Table) (r : Rule) (h1 : t.ins.length ≤ 2 ^ 30) (h2 : t.outs.length ≤ 2 ^ 30) (hr : r.cells.length ≤ 2 ^ 30) (ho : r.outs.length ≤ 2 ^ 30) : okLine (lineS t r).1 := by
  have hc : ∀ n, n ≤ 2 ^ 30 → (cellL t r n).length ≤ 2 ^ 30 ∧ ∀ c ∈ cellL t r n, okC2 c := fun n hn => by
    refine ⟨by rw [len_cellL]; exact hn, fun c hc => ?_⟩
    obtain ⟨k, _, rfl⟩ := List.mem_map.1 hc
    exact parseC_ok2 _
  have hx : ∀ n, n ≤ 2 ^ 30 → (outL t r n).length ≤ 2 ^ 30 ∧ ∀ x ∈ outL t r n, okX x ∧ szS x ≤ 2 ^ 30 := fun n hn => by
    refine ⟨by rw [len_outL]; exact hn, fun x hx => ?_⟩
    obtain ⟨k, _, rfl⟩ := List.mem_map.1 hx
    exact parseS_ok _
  have hk : ∀ {n k : Nat} {p : Nat → Bool}, (List.range n).find? p = some k → k < n := fun h => List.mem_range.1 (List.mem_of_find?_eq_some h)
  unfold lineS
  split
  · exact ⟨⟨by simp, by simp⟩, by simp, by simp⟩
  split
  · rename_i k hq; have := hk hq; exact ⟨hc _ (by omega), by simp, by simp⟩
  split
  · rename_i k hq; have := hk hq; exact ⟨hc _ hr, hx _ (by omega)⟩
  · exact ⟨hc _ hr, hx _ ho⟩
theorem makeS_lines {t : Table} (h : okTab t) (h0 : (makeS t).2.2.2 = 0) : (makeS t).1.lines.length = t.rules.length ∧ ∀ n, okLine (lineN t n) := by
  obtain ⟨_, _, hm⟩ := makeS_zero h0
  refine ⟨by rw [hm]; exact len_lineL _ _, fun n => ?_⟩
  unfold lineN
  rw [hm]
  dsimp only
  by_cases hn : n < t.rules.length
  · have : (lineL t t.rules.length).getD n default = (lineR t n).1 := by
      unfold lineL
      rw [List.getD_eq_getElem?_getD, List.getElem?_map, List.getElem?_range hn]; rfl
    rw [this]
    have hr := h.2.2.2.2 _ (getD_mem hn)
    exact lineS_okL t _ h.2.1.1 h.2.2.1.1 hr.1.1 hr.2.1
  · rw [getD_out (by rw [len_lineL]; omega)]
    exact ⟨⟨Nat.zero_le _, fun c hc => by cases hc⟩, Nat.zero_le _, fun c hc => by cases hc⟩
def TxV (L : Nat) (S : Store) (v : AV) (xs : List Str) : Prop := (xs = [] ∧ v = .nils) ∨ (xs ≠ [] ∧ ∃ q, L ≤ q ∧ v = .own E1 q xs.length 0 xs.length ∧ S[q]? = some (.vec E1 (xs.map eStr)))
theorem TxV.nil (L : Nat) (S : Store) : TxV L S .nils [] := .inl ⟨rfl, rfl⟩
theorem TxV.scalar {L : Nat} {S : Store} {v : AV} {xs : List Str} (h : TxV L S v xs) : v.scalar = true := by
  rcases h with ⟨_, rfl⟩ | ⟨_, q, _, rfl, _⟩ <;> rfl
theorem TxV.view {L : Nat} {S : Store} {v : AV} {xs : List Str} (h : TxV L S v xs) : View S v (eStrs xs) := by
  rcases h with ⟨rfl, rfl⟩ | ⟨_, q, _, rfl, hq⟩
  · exact View.nils _
  · exact View.vec hq (by simp) (by simp) (purL_s _)
theorem TxV.keep {L L' : Nat} {S S' : Store} {v : AV} {xs : List Str} (hL : L' ≤ L) (hs : ∀ (q : Nat) (ys : List AV), L ≤ q → S[q]? = some (.vec E1 ys) → S'[q]? = some (.vec E1 ys)) (h : TxV L S v xs) : TxV L' S' v xs := by
  rcases h with h | ⟨h1, q, h2, h3, h4⟩
  · exact .inl h
  · exact .inr ⟨h1, q, Nat.le_trans hL h2, h3, hs _ _ h2 h4⟩
def RowV (S : Store) (a : AV) (r : Rule) : Prop := ∃ v w, a = .agg [v, w] ∧ TxV 0 S v r.cells ∧ TxV 0 S w r.outs
def RowsV (S : Store) (rs : List AV) (l : List Rule) : Prop := rs.length = l.length ∧ ∀ j, j < l.length → RowV S (rs.getD j .undef) (l.getD j default)
theorem RowsV.nil (S : Store) : RowsV S [] [] := ⟨rfl, fun j hj => by cases hj⟩
theorem RowsV.keep {S S' : Store} {rs : List AV} {l : List Rule} (hs : ∀ (q : Nat) (ys : List AV), S[q]? = some (.vec E1 ys) → S'[q]? = some (.vec E1 ys)) (h : RowsV S rs l) : RowsV S' rs l := by
  refine ⟨h.1, fun j hj => ?_⟩
  obtain ⟨v, w, h1, h2, h3⟩ := h.2 j hj
  exact ⟨v, w, h1, h2.keep (Nat.le_refl _) (fun q ys _ => hs q ys), h3.keep (Nat.le_refl _) (fun q ys _ => hs q ys)⟩
theorem RowsV.snoc {S : Store} {rs : List AV} {l : List Rule} {a : AV} {r : Rule} (h : RowsV S rs l) (ha : RowV S a r) : RowsV S (rs ++ [a]) (l ++ [r]) := by
  refine ⟨by simp [h.1], fun j hj => ?_⟩
  have hl := h.1
  rw [List.length_append, List.length_cons, List.length_nil] at hj
  by_cases hjl : j < l.length
  · rw [List.getD_eq_getElem?_getD, List.getD_eq_getElem?_getD, List.getElem?_append_left (by omega), List.getElem?_append_left hjl, ← List.getD_eq_getElem?_getD, ← List.getD_eq_getElem?_getD]
    exact h.2 j hjl
  · obtain rfl : j = l.length := by omega
    rw [List.getD_eq_getElem?_getD, List.getD_eq_getElem?_getD, ← hl, List.getElem?_append_right (Nat.le_refl _), hl, List.getElem?_append_right (Nat.le_refl _)]
    simpa using ha
theorem RowsV.view {S : Store} {rs : List AV} {l : List Rule} (h : RowsV S rs l) : ViewL S rs (l.map eRule) := by
  refine ⟨by simp [h.1], fun j hj => ?_⟩
  have hl := h.1
  obtain ⟨v, w, h1, h2, h3⟩ := h.2 j (by omega)
  rw [h1, getD_map _ _ _ (by omega)]
  exact View.agg' (.cons h2.view (.cons h3.view (.nil _)))
def RulV (L : Nat) (S : Store) (v : AV) (l : List Rule) : Prop := (l = [] ∧ v = .nils) ∨ (l ≠ [] ∧ ∃ q rs, L ≤ q ∧ v = .own ER q l.length 0 l.length ∧ S[q]? = some (.vec ER rs) ∧ RowsV S rs l)
theorem RulV.nil (L : Nat) (S : Store) : RulV L S .nils [] := .inl ⟨rfl, rfl⟩
theorem RulV.view {L : Nat} {S : Store} {v : AV} {l : List Rule} (h : RulV L S v l) : View S v (eRules l) := by
  rcases h with ⟨rfl, rfl⟩ | ⟨_, q, rs, _, rfl, hq, hr⟩
  · exact View.nils _
  · exact View.vecL hq hr.1.symm hr.1.symm hr.view
theorem RulV.scalar {L : Nat} {S : Store} {v : AV} {l : List Rule} (h : RulV L S v l) : v.scalar = true := by
  rcases h with ⟨_, rfl⟩ | ⟨_, q, _, _, rfl, _⟩ <;> rfl
theorem RulV.keep {L : Nat} {S S' : Store} {v : AV} {l : List Rule} (hs : ∀ (q : Nat) (o : AObj), S[q]? = some o → (∀ cs, o ≠ .cells cs) → S'[q]? = some o) (h : RulV L S v l) : RulV L S' v l := by
  rcases h with h | ⟨h1, q, rs, h2, h3, h4, h5⟩
  · exact .inl h
  · exact .inr ⟨h1, q, rs, h2, h3, hs _ _ h4 (fun cs => by simp), h5.keep (fun q ys hq => hs q _ hq (fun cs => by simp))⟩
theorem view_t0 (σ : Store) : View σ (.agg [.str [], .nils, .nils, I 0, I 0, .nils]) (eTable table0) :=
  View.agg' (.cons (.refl _ rfl) (.cons (.nils _) (.cons (.nils _) (.cons (.refl _ rfl) (.cons (.refl _ rfl) (.cons (.nils _) (.nil _)))))))
abbrev oTab (t : Table) (v : AV) : AObj := .cells [.str t.name, .lst false EC (t.ins.map eCol), .lst false EC (t.outs.map eCol), I t.policy, I t.agg, v]
abbrev oRdy (t : Table) (ls : List Line) : AObj := .cells [.str t.name, .lst false EC (t.ins.map eCol), .lst false EC (t.outs.map eCol), I t.policy, I t.agg, .lst false ER (t.rules.map eRule), .lst false ER (ls.map eLine)]
theorem tx_first {S1 : Store} {L k : Nat} {c : AObj} {s : Str} (hL : L ≤ S1.length) (hk : k < S1.length) : TxV L ((S1 ++ [AObj.vec E1 [.str s]]).set k c) (.own E1 S1.length 1 0 1) [s] :=
  .inr ⟨by simp, S1.length, hL, rfl, by rw [List.getElem?_set_ne (by omega)]; simp [eStr]⟩
theorem tx_next {S1 : Store} {L k q : Nat} {c : AObj} {s : Str} {xs : List Str} (hq : S1[q]? = some (.vec E1 (xs.map eStr))) (hL : L ≤ q) (hk : k ≠ q) : TxV L ((S1.set q (.vec E1 (xs.map eStr ++ [.str s]))).set k c) (.own E1 q (xs.length + 1) 0 (xs.length + 1)) (xs ++ [s]) :=
  .inr ⟨by simp, q, hL, by simp, by rw [List.getElem?_set_ne hk, List.getElem?_set_self (lt_of hq)]; simp [eStr]⟩
theorem keep_first {S1 : Store} {k : Nat} {c d : AObj} (j : Nat) (o : AObj) (hj : S1[j]? = some o) (hne : j ≠ k) : ((S1 ++ [d]).set k c)[j]? = some o := by
  rw [List.getElem?_set_ne (Ne.symm hne), List.getElem?_append_left (lt_of hj)]; exact hj
theorem keep_next {S1 : Store} {k q : Nat} {c d : AObj} (j : Nat) (o : AObj) (hj : S1[j]? = some o) (hne : j ≠ k) (hq : j ≠ q) : ((S1.set q d).set k c)[j]? = some o := by
  rw [List.getElem?_set_ne (Ne.symm hne), List.getElem?_set_ne (Ne.symm hq)]; exact hj
theorem put0n {σ : Store} {k : Nat} {w : AV} (h : σ[k]? = some (.cells [.nils, w])) (s : Str) (e : Int) : CallA Tryz.prog n_dtable_Clean_1 [.ref k 0, .str s, I e] σ fun o σ' => o = .ret (.bool (e == 0)) ∧ σ' = (σ ++ [AObj.vec E1 [.str s]]).set k (.cells [.own E1 σ.length 1 0 1, w]) := by
  have h2 : ∀ d : AObj, (σ ++ [d])[k]? = some (.cells [.nils, w]) := fun d => by rw [List.getElem?_append_left (lt_of h)]; exact h
  refine of_dtable_Clean_1 (by simp) ?_
  unfold b_dtable_Clean_1 WpR
  intro Q hQr hQn hQp
  repeat' first | simp (disch := omega) only [go_sem, hQr, hQn, hQp, wrapK_i64, wrapK_u8, wrapK_u64, Nat.reduceAdd, Nat.reduceBEq, ↓reduceIte, h, h2] | refine go_ ?_ | refine br_ (fun hw => ?_) (fun hw => ?_) <;> try omega | fail
  exact ⟨rfl, by trivial⟩
theorem put1n {σ : Store} {k : Nat} {w : AV} (h : σ[k]? = some (.cells [w, .nils])) (s : Str) (e : Int) : CallA Tryz.prog n_dtable_Clean_1 [.ref k 1, .str s, I e] σ fun o σ' => o = .ret (.bool (e == 0)) ∧ σ' = (σ ++ [AObj.vec E1 [.str s]]).set k (.cells [w, .own E1 σ.length 1 0 1]) := by
  have h2 : ∀ d : AObj, (σ ++ [d])[k]? = some (.cells [w, .nils]) := fun d => by rw [List.getElem?_append_left (lt_of h)]; exact h
  refine of_dtable_Clean_1 (by simp) ?_
  unfold b_dtable_Clean_1 WpR
  intro Q hQr hQn hQp
  repeat' first | simp (disch := omega) only [go_sem, hQr, hQn, hQp, wrapK_i64, wrapK_u8, wrapK_u64, Nat.reduceAdd, Nat.reduceBEq, ↓reduceIte, h, h2] | refine go_ ?_ | refine br_ (fun hw => ?_) (fun hw => ?_) <;> try omega | fail
  exact ⟨rfl, by trivial⟩
theorem put0o {σ : Store} {k q : Nat} {xs : List Str} {w : AV} (h : σ[k]? = some (.cells [.own E1 q xs.length 0 xs.length, w])) (hq : σ[q]? = some (.vec E1 (xs.map eStr))) (hne : q ≠ k) (hl : xs.length ≤ 2 ^ 30) (s : Str) (e : Int) : CallA Tryz.prog n_dtable_Clean_1 [.ref k 0, .str s, I e] σ fun o σ' => o = .ret (.bool (e == 0)) ∧ σ' = (σ.set q (.vec E1 (xs.map eStr ++ [.str s]))).set k (.cells [.own E1 q (xs.length + 1) 0 (xs.length + 1), w]) := by
  have h2 : ∀ d : AObj, (σ.set q d)[k]? = some (.cells [.own E1 q xs.length 0 xs.length, w]) := fun d => by rw [List.getElem?_set_ne hne]; exact h
  refine of_dtable_Clean_1 (by simp) ?_
  unfold b_dtable_Clean_1 WpR
  intro Q hQr hQn hQp
  repeat' first | simp (disch := omega) only [go_sem, hQr, hQn, hQp, wrapK_i64, wrapK_u8, wrapK_u64, Nat.reduceAdd, Nat.reduceBEq, ↓reduceIte, h, h2, hq] | refine go_ ?_ | refine br_ (fun hw => ?_) (fun hw => ?_) <;> try omega | fail
  exact ⟨rfl, by trivial⟩
theorem put1o {σ : Store} {k q : Nat} {xs : List Str} {w : AV} (h : σ[k]? = some (.cells [w, .own E1 q xs.length 0 xs.length])) (hq : σ[q]? = some (.vec E1 (xs.map eStr))) (hne : q ≠ k) (hl : xs.length ≤ 2 ^ 30) (s : Str) (e : Int) : CallA Tryz.prog n_dtable_Clean_1 [.ref k 1, .str s, I e] σ fun o σ' => o = .ret (.bool (e == 0)) ∧ σ' = (σ.set q (.vec E1 (xs.map eStr ++ [.str s]))).set k (.cells [w, .own E1 q (xs.length + 1) 0 (xs.length + 1)]) := by
  have h2 : ∀ d : AObj, (σ.set q d)[k]? = some (.cells [w, .own E1 q xs.length 0 xs.length]) := fun d => by rw [List.getElem?_set_ne hne]; exact h
  refine of_dtable_Clean_1 (by simp) ?_
  unfold b_dtable_Clean_1 WpR
  intro Q hQr hQn hQp
  repeat' first | simp (disch := omega) only [go_sem, hQr, hQn, hQp, wrapK_i64, wrapK_u8, wrapK_u64, Nat.reduceAdd, Nat.reduceBEq, ↓reduceIte, h, h2, hq] | refine go_ ?_ | refine br_ (fun hw => ?_) (fun hw => ?_) <;> try omega | fail
  exact ⟨rfl, by trivial⟩
theorem app_keep {S : Store} {j : Nat} {o : AObj} (h : S[j]? = some o) (d : AObj) : (S ++ [d])[j]? = some o := by rw [List.getElem?_append_left (lt_of h)]; exact h
theorem set_keep {S : Store} {j k : Nat} {o : AObj} (h : S[j]? = some o) (hne : j ≠ k) (d : AObj) : (S.set k d)[j]? = some o := by rw [List.getElem?_set_ne (Ne.symm hne)]; exact h
set_option maxHeartbeats 8000000 in
theorem dtable_Clean (t : Table) (h : okTab t) : CallF Tryz.prog n_dtable_Clean [eTable t] (eT4 (cleanS t)) := by
  have cm := dtable_Make t h
  obtain ⟨E, hE⟩ : ∃ E, eT4 (cleanS t) = E := ⟨_, rfl⟩
  rw [hE]
  by_cases he : (makeS t).2.2.2 ≠ 0
  · have hc := cleanS_make he
    obtain ⟨M, hM⟩ : ∃ M, makeS t = M := ⟨_, rfl⟩
    rw [hM] at cm hc he
    simp only [eR4, eReady, eTable, cTable, eCols, eRules, eLines] at cm ⊢
    refine CallF.of_nil (of_dtable_Clean (by simp) ?_) (by simp)
    unfold b_dtable_Clean WpR
    intro Q hQr hQn hQp
    repeat' first | refine go_ ?_ | refine cf_ cm ?_ | refine br_ (fun hw => ?_) (fun hw => ?_) <;> try omega | fail
    all_goals first
      | exact ab_
      | (rw [← hE, hc]; exact leafN (view4 (view_t0 _)))
  have he0 : (makeS t).2.2.2 = 0 := by omega
  obtain ⟨hf, hl, hm⟩ := makeS_zero he0
  obtain ⟨hlen, hok⟩ := makeS_lines h he0
  have hcr := fun n => cleanS_row (t := t) he0 (n := n)
  have hco := cleanS_ok he0
  obtain ⟨ls, hls⟩ : ∃ ls, (makeS t).1.lines = ls := ⟨_, rfl⟩
  have hln : ∀ n, lineN t n = ls.getD n default := fun n => by rw [← hls]; rfl
  have hll : lineL t t.rules.length = ls := by rw [← hls, hm]
  rw [hls] at hlen hcr hco
  rw [hm, hll] at cm
  have hr30 := h.2.2.2.1
  have hi30 := h.2.1.1
  clear hm hll hl hf he0 hls he
  simp only [eR4, eReady, eTable, cTable, eCols, eRules, eLines] at cm ⊢
  refine CallF.of_nil (of_dtable_Clean (by simp) ?_) (by simp)
  unfold b_dtable_Clean WpR
  intro Q hQr hQn hQp
  repeat' first | refine go_ ?_ | refine cf_ cm ?_ | refine br_ (fun hw => ?_) (fun hw => ?_) <;> try omega | fail
  all_goals first | exact ab_ | skip
  with_reducible refine loop_i [7, 8, 9, 13, 14, 15, 16, 17, 18, 19, 20, 39, 40, 41, 42, 43, 44, 45, 46, 47, 48, 49, 50, 51, 52, 53, 54, 55, 56, 57, 58, 59, 60, 61, 62, 63, 64, 65, 66, 67, 68, 69, 70, 71, 72, 73, 74, 75, 76, 77, 78, 79, 80, 81, 82, 83, 84, 85, 86, 87, 88, 89, 90, 91, 92, 93, 94, 95, 96, 97, 98] (fun q : Nat × Store => [(39, I q.1), (9, I 0)]) (fun q => q.2) (fun q => q.1 ≤ ls.length ∧ (∀ k, k < q.1 → (rowN t k).2.2 = 0) ∧ 5 ≤ q.2.length ∧ q.2[0]? = some (oTab t (.lst false ER (t.rules.map eRule))) ∧ q.2[1]? = some (.cells [.str [], .nils, .nils, I 0, I 0, .nils]) ∧ q.2[2]? = some (oRdy t ls) ∧ (∃ v, q.2[3]? = some (oTab t v) ∧ RulV 5 q.2 v (rowsL t q.1)) ∧ ∃ a b, q.2[4]? = some (.cells [a, b])) (fun q => ls.length - q.1) (0, _) ⟨Nat.zero_le _, fun k hk => by omega, by simp, rfl, rfl, rfl, ⟨_, rfl, RulV.nil _ _⟩, _, _, rfl⟩ rfl ?_ ?_
  · exact at_
  rintro ⟨n, S⟩ rr ⟨h1, h2, h3, f0, f1, f2, ⟨v, f3, h4⟩, xa, xb, f4⟩
  dsimp only at h1 h2 h3 f0 f1 f2 f3 h4 f4
  have hvs := h4.scalar
  by_cases hn : n < ls.length
  · have hokl := hok n
    have hrow : rowN t n = rowS t.ins.length (lineN t n) := rfl
    have hcn := hcr n hn h2
    have hrl := rowsL_succ t n
    rw [hrow, rowS_1] at hrl
    rw [hrow] at hcn
    rw [hln] at hokl hcn hrl
    obtain ⟨l, hlN⟩ : ∃ l, ls.getD n default = l := ⟨_, rfl⟩
    rw [hlN] at hokl hcn hrl
    obtain ⟨⟨k1, k2⟩, k3, k4⟩ := hokl
    have f4a : ∀ d : AObj, (S ++ [d])[4]? = some (.cells [xa, xb]) := fun d => app_keep f4 d
    have hSl : (S ++ [AObj.cells [.lst false EC (l.cells.map eCell), .lst false EX (l.outs.map eExpr)]])[S.length]? = some (.cells [.lst false EC (l.cells.map eCell), .lst false EX (l.outs.map eExpr)]) := getElem?_last _ _
    have hSl2 : ∀ d : AObj, ((S ++ [AObj.cells [.lst false EC (l.cells.map eCell), .lst false EX (l.outs.map eExpr)]]).set 4 d)[S.length]? = some (.cells [.lst false EC (l.cells.map eCell), .lst false EX (l.outs.map eExpr)]) := fun d => set_keep hSl (by omega) d
    repeat' first | simp (disch := omega) only [go_sem, hQr, hQn, hQp, wrapK_i64, wrapK_u8, wrapK_u64, Nat.reduceAdd, Nat.reduceBEq, ↓reduceIte, f0, f1, f2, f3, f4, f4a, hSl2, hlN] | refine go_ ?_ | refine br_ (fun hw => ?_) (fun hw => ?_) <;> try omega | fail
    with_reducible refine loop_i [8, 9, 15, 16, 17, 49, 50, 51, 52, 53, 54, 55, 56, 57, 58, 59, 60, 61, 62, 63, 64, 65, 66] (fun q : Nat × Store => [(49, I q.1), (9, I 0)]) (fun q => q.2) (fun q => q.1 ≤ l.cells.length ∧ (∀ k, k < q.1 → (cellTx l k).2 = 0) ∧ S.length < q.2.length ∧ (∀ j o, S[j]? = some o → j ≠ 4 → q.2[j]? = some o) ∧ q.2[S.length]? = some (.cells [.lst false EC (l.cells.map eCell), .lst false EX (l.outs.map eExpr)]) ∧ ∃ x, q.2[4]? = some (.cells [x, .nils]) ∧ TxV (S.length + 1) q.2 x (cellsT l q.1)) (fun q => l.cells.length - q.1) (0, _) ⟨Nat.zero_le _, fun k hk => by omega, by simp, fun j o hj hne => set_keep (app_keep hj _) hne _, hSl2 _, .nils, List.getElem?_set_self (lt_of (f4a _)), TxV.nil _ _⟩ rfl ?_ ?_
    · exact at_
    rintro ⟨m, S1⟩ rr ⟨g1, g2, g3, g4, gl, x, g5, g6⟩
    dsimp only at g1 g2 g3 g4 gl g5 g6
    have e0 := g4 _ _ f0 (by omega)
    have e1 := g4 _ _ f1 (by omega)
    have e2 := g4 _ _ f2 (by omega)
    have e3 := g4 _ _ f3 (by omega)
    by_cases hml : m < l.cells.length
    · have cT : CallF Tryz.prog n_cell_Text [eCell (l.cells.getD m default)] (.tup [.str (cellTx l m).1, I (cellTx l m).2]) := cell_Text _ (k2 _ (getD_mem hml))
      have hsc := cellsT_succ l m
      have hlm := len_cellsT l m
      have hce := rowS_cell t.ins.length hml g2
      have hb2 := fun he => before_succ (q := fun j => (cellTx l j).2 = 0) g2 he
      obtain ⟨a, ha⟩ : ∃ a, cellTx l m = a := ⟨_, rfl⟩
      rw [ha] at cT hsc hce hb2
      obtain ⟨c, hc⟩ : ∃ c, l.cells.getD m default = c := ⟨_, rfl⟩
      rw [hc] at cT
      simp only [eCell, eTests] at cT
      obtain ⟨xs, hxs⟩ : ∃ xs, cellsT l m = xs := ⟨_, rfl⟩
      rw [hxs] at g6 hsc hlm
      rcases g6 with ⟨rfl, rfl⟩ | ⟨hne, q, hq, rfl, hqs⟩
      · repeat' first | simp (disch := omega) only [go_sem, hQr, hQn, hQp, wrapK_i64, wrapK_u8, wrapK_u64, Nat.reduceAdd, Nat.reduceBEq, ↓reduceIte, e0, e1, e2, e3, gl, g5, hlN, hc] | refine go_ ?_ | refine cf_ cT ?_ | with_reducible refine callL_any (put0n (app_keep g5 _) _ _) ?_ | refine br_ (fun hw => ?_) (fun hw => ?_) <;> try omega | fail
        rintro o s ⟨rfl, hsv⟩
        have y1 : s[1]? = some (.cells [.str [], .nils, .nils, I 0, I 0, .nils]) := by rw [hsv]; exact keep_first _ _ (app_keep e1 _) (by omega)
        have hs1 : ∀ d, (s.set 1 d)[1]? = some d := fun d => List.getElem?_set_self (lt_of y1)
        repeat' first | simp (disch := omega) only [go_sem, hQr, hQn, hQp, wrapK_i64, wrapK_u8, wrapK_u64, Nat.reduceAdd, Nat.reduceBEq, ↓reduceIte, y1, hs1] | refine go_ ?_ | refine br_ (fun hw => ?_) (fun hw => ?_) <;> try omega | fail
        · rw [hce (by assumption)] at hcn
          rw [← hE, hcn (by assumption)]
          exact leafN (view4 (view_t0 _))
        · have ha0 : a.2 = 0 := by assumption
          refine ⟨(m + 1, s), ⟨by omega, hb2 ha0, ?_, ?_, ?_, .own E1 (S1.length + 1) 1 0 1, ?_, ?_⟩, by dsimp only; omega, rfl, ou_, (by simp only [ha0]; simp (disch := omega) only [at_nil, at_cons, and_true, go_sem, hQr, hQn, hQp, wrapK_i64, wrapK_u8, wrapK_u64, Nat.reduceAdd, Nat.reduceBEq, ↓reduceIte, Int.natCast_add, Int.cast_ofNat_Int] <;> (try trivial) <;> (try omega) <;> (try (repeat (first | trivial | (refine And.intro ?_ ?_) | (congr 1; omega)))))⟩
          · dsimp only; rw [hsv]; simp; omega
          · intro j o hj hne; dsimp only; rw [hsv]; exact keep_first j o (app_keep (g4 _ _ hj hne) _) hne
          · dsimp only; rw [hsv]; exact keep_first _ _ (app_keep gl _) (by omega)
          · dsimp only; rw [hsv, List.getElem?_set_self (by simp; omega)]
          · dsimp only; rw [hsc, hsv]; have := tx_first (S1 := S1 ++ [AObj.cells [.bool c.any, .bool c.neg, .lst false ES (c.tests.map eTest)]]) (L := S.length + 1) (k := 4) (c := .cells [.own E1 (S1 ++ [AObj.cells [.bool c.any, .bool c.neg, .lst false ES (c.tests.map eTest)]]).length 1 0 1, .nils]) (s := a.1) (by simp; omega) (by simp; omega)
            simpa using this
      · have hqk : q ≠ 4 := by omega
        repeat' first | simp (disch := omega) only [go_sem, hQr, hQn, hQp, wrapK_i64, wrapK_u8, wrapK_u64, Nat.reduceAdd, Nat.reduceBEq, ↓reduceIte, e0, e1, e2, e3, gl, g5, hlN, hc] | refine go_ ?_ | refine cf_ cT ?_ | with_reducible refine callL_any (put0o (app_keep g5 _) (app_keep hqs _) hqk (by omega) _ _) ?_ | refine br_ (fun hw => ?_) (fun hw => ?_) <;> try omega | fail
        rintro o s ⟨rfl, hsv⟩
        have y1 : s[1]? = some (.cells [.str [], .nils, .nils, I 0, I 0, .nils]) := by rw [hsv]; exact keep_next _ _ (app_keep e1 _) (by omega) (by omega)
        have hs1 : ∀ d, (s.set 1 d)[1]? = some d := fun d => List.getElem?_set_self (lt_of y1)
        repeat' first | simp (disch := omega) only [go_sem, hQr, hQn, hQp, wrapK_i64, wrapK_u8, wrapK_u64, Nat.reduceAdd, Nat.reduceBEq, ↓reduceIte, y1, hs1] | refine go_ ?_ | refine br_ (fun hw => ?_) (fun hw => ?_) <;> try omega | fail
        · rw [hce (by assumption)] at hcn
          rw [← hE, hcn (by assumption)]
          exact leafN (view4 (view_t0 _))
        · have ha0 : a.2 = 0 := by assumption
          refine ⟨(m + 1, s), ⟨by omega, hb2 ha0, ?_, ?_, ?_, .own E1 q (xs.length + 1) 0 (xs.length + 1), ?_, ?_⟩, by dsimp only; omega, rfl, ou_, (by simp only [ha0]; simp (disch := omega) only [at_nil, at_cons, and_true, go_sem, hQr, hQn, hQp, wrapK_i64, wrapK_u8, wrapK_u64, Nat.reduceAdd, Nat.reduceBEq, ↓reduceIte, Int.natCast_add, Int.cast_ofNat_Int] <;> (try trivial) <;> (try omega) <;> (try (repeat (first | trivial | (refine And.intro ?_ ?_) | (congr 1; omega)))))⟩
          · dsimp only; rw [hsv]; simp; omega
          · intro j o hj hne; dsimp only; have := lt_of hj; rw [hsv]; exact keep_next j o (app_keep (g4 _ _ hj hne) _) hne (by omega)
          · dsimp only; rw [hsv]; exact keep_next _ _ (app_keep gl _) (by omega) (by omega)
          · dsimp only; rw [hsv, List.getElem?_set_self (by simp; omega)]
          · dsimp only; rw [hsc, hsv]; exact tx_next (app_keep hqs _) hq (Ne.symm hqk)
    · obtain rfl : m = l.cells.length := by omega
      have hco1 := fun {k : Nat} => rowS_out t.ins.length g2 (m := k)
      have hok1 := rowS_ok t.ins.length g2
      repeat' first | simp (disch := omega) only [go_sem, hQr, hQn, hQp, wrapK_i64, wrapK_u8, wrapK_u64, Nat.reduceAdd, Nat.reduceBEq, ↓reduceIte, e0, e1, e2, e3, gl, g5, hlN] | refine go_ ?_ | refine br_ (fun hw => ?_) (fun hw => ?_) <;> try omega | fail
      with_reducible refine loop_i [8, 9, 18, 19, 20, 70, 71, 72, 73, 74, 75, 76, 77, 78, 79, 80, 81, 82, 83, 84, 85, 86, 87, 88, 89, 90, 91] (fun q : Nat × Store => [(70, I q.1), (9, I 0)]) (fun q => q.2) (fun q => q.1 ≤ l.outs.length ∧ (∀ k, k < q.1 → (outTx l k).2 = 0) ∧ S1.length ≤ q.2.length ∧ (∀ j o, S1[j]? = some o → j ≠ 4 → q.2[j]? = some o) ∧ ∃ y, q.2[4]? = some (.cells [x, y]) ∧ TxV S1.length q.2 y (outsT l q.1)) (fun q => l.outs.length - q.1) (0, _) ⟨Nat.zero_le _, fun k hk => by omega, Nat.le_refl _, fun j o hj _ => hj, _, g5, TxV.nil _ _⟩ rfl ?_ ?_
      · exact at_
      rintro ⟨m, S2⟩ rr ⟨p1, p2, p3, p4, y, p5, p6⟩
      dsimp only at p1 p2 p3 p4 p5 p6
      have e0 := p4 _ _ e0 (by omega)
      have e1 := p4 _ _ e1 (by omega)
      have e2 := p4 _ _ e2 (by omega)
      have e3 := p4 _ _ e3 (by omega)
      have gl := p4 _ _ gl (by omega)
      have hS2 : S.length < S2.length := by omega
      by_cases hml : m < l.outs.length
      · have cT : CallF Tryz.prog n_syntax_Text [eExpr (l.outs.getD m default)] (.tup [.str (outTx l m).1, I (outTx l m).2]) := syntax_Text _ (k4 _ (getD_mem hml)).1 (k4 _ (getD_mem hml)).2
        have hsc := outsT_succ l m
        have hlm := len_outsT l m
        have hce := hco1 hml p2
        have hb2 := fun he => before_succ (q := fun j => (outTx l j).2 = 0) p2 he
        obtain ⟨a, ha⟩ : ∃ a, outTx l m = a := ⟨_, rfl⟩
        rw [ha] at cT hsc hce hb2
        obtain ⟨c, hc⟩ : ∃ c, l.outs.getD m default = c := ⟨_, rfl⟩
        rw [hc, eExpr_eq] at cT
        obtain ⟨xs, hxs⟩ : ∃ xs, outsT l m = xs := ⟨_, rfl⟩
        rw [hxs] at p6 hsc hlm
        rcases p6 with ⟨rfl, rfl⟩ | ⟨hne, q, hq, rfl, hqs⟩
        · have e0' := fun d => app_keep e0 d
          repeat' first | simp (disch := omega) only [go_sem, hQr, hQn, hQp, wrapK_i64, wrapK_u8, wrapK_u64, Nat.reduceAdd, Nat.reduceBEq, ↓reduceIte, e0, e0', e1, e2, e3, gl, p5, hlN, hc] | refine go_ ?_ | refine cf_ cT ?_ | with_reducible refine callL_any (put1n (app_keep p5 _) _ _) ?_ | refine br_ (fun hw => ?_) (fun hw => ?_) <;> try omega | fail
          rintro o s ⟨rfl, hsv⟩
          have y1 : s[1]? = some (.cells [.str [], .nils, .nils, I 0, I 0, .nils]) := by rw [hsv]; exact keep_first _ _ (app_keep e1 _) (by omega)
          have hs1 : ∀ d, (s.set 1 d)[1]? = some d := fun d => List.getElem?_set_self (lt_of y1)
          repeat' first | simp (disch := omega) only [go_sem, hQr, hQn, hQp, wrapK_i64, wrapK_u8, wrapK_u64, Nat.reduceAdd, Nat.reduceBEq, ↓reduceIte, y1, hs1] | refine go_ ?_ | refine br_ (fun hw => ?_) (fun hw => ?_) <;> try omega | fail
          · rw [hce (by assumption)] at hcn
            rw [← hE, hcn (by assumption)]
            exact leafN (view4 (view_t0 _))
          · have ha0 : a.2 = 0 := by assumption
            refine ⟨(m + 1, s), ⟨by omega, hb2 ha0, ?_, ?_, .own E1 (S2.length + 1) 1 0 1, ?_, ?_⟩, by dsimp only; omega, rfl, ou_, (by simp only [ha0]; simp (disch := omega) only [at_nil, at_cons, and_true, go_sem, hQr, hQn, hQp, wrapK_i64, wrapK_u8, wrapK_u64, Nat.reduceAdd, Nat.reduceBEq, ↓reduceIte, Int.natCast_add, Int.cast_ofNat_Int] <;> (try trivial) <;> (try omega) <;> (try (repeat (first | trivial | (refine And.intro ?_ ?_) | (congr 1; omega)))))⟩
            · dsimp only; rw [hsv]; simp; omega
            · intro j o hj hne; dsimp only; rw [hsv]; exact keep_first j o (app_keep (p4 _ _ hj hne) _) hne
            · dsimp only; rw [hsv, List.getElem?_set_self (by simp; omega)]
            · dsimp only; rw [hsc, hsv]; have := tx_first (S1 := S2 ++ [AObj.cells [I c.op, I c.v.kind, I c.v.n, .str c.v.s, .str c.s, .lst false EX (c.l.map eExpr)]]) (L := S1.length) (k := 4) (c := .cells [x, .own E1 (S2 ++ [AObj.cells [I c.op, I c.v.kind, I c.v.n, .str c.v.s, .str c.s, .lst false EX (c.l.map eExpr)]]).length 1 0 1]) (s := a.1) (by simp; omega) (by simp; omega)
              simpa using this
        · have hqk : q ≠ 4 := by omega
          have e0' := fun d => app_keep e0 d
          repeat' first | simp (disch := omega) only [go_sem, hQr, hQn, hQp, wrapK_i64, wrapK_u8, wrapK_u64, Nat.reduceAdd, Nat.reduceBEq, ↓reduceIte, e0, e0', e1, e2, e3, gl, p5, hlN, hc] | refine go_ ?_ | refine cf_ cT ?_ | with_reducible refine callL_any (put1o (app_keep p5 _) (app_keep hqs _) hqk (by omega) _ _) ?_ | refine br_ (fun hw => ?_) (fun hw => ?_) <;> try omega | fail
          rintro o s ⟨rfl, hsv⟩
          have y1 : s[1]? = some (.cells [.str [], .nils, .nils, I 0, I 0, .nils]) := by rw [hsv]; exact keep_next _ _ (app_keep e1 _) (by omega) (by omega)
          have hs1 : ∀ d, (s.set 1 d)[1]? = some d := fun d => List.getElem?_set_self (lt_of y1)
          repeat' first | simp (disch := omega) only [go_sem, hQr, hQn, hQp, wrapK_i64, wrapK_u8, wrapK_u64, Nat.reduceAdd, Nat.reduceBEq, ↓reduceIte, y1, hs1] | refine go_ ?_ | refine br_ (fun hw => ?_) (fun hw => ?_) <;> try omega | fail
          · rw [hce (by assumption)] at hcn
            rw [← hE, hcn (by assumption)]
            exact leafN (view4 (view_t0 _))
          · have ha0 : a.2 = 0 := by assumption
            refine ⟨(m + 1, s), ⟨by omega, hb2 ha0, ?_, ?_, .own E1 q (xs.length + 1) 0 (xs.length + 1), ?_, ?_⟩, by dsimp only; omega, rfl, ou_, (by simp only [ha0]; simp (disch := omega) only [at_nil, at_cons, and_true, go_sem, hQr, hQn, hQp, wrapK_i64, wrapK_u8, wrapK_u64, Nat.reduceAdd, Nat.reduceBEq, ↓reduceIte, Int.natCast_add, Int.cast_ofNat_Int] <;> (try trivial) <;> (try omega) <;> (try (repeat (first | trivial | (refine And.intro ?_ ?_) | (congr 1; omega)))))⟩
            · dsimp only; rw [hsv]; simp; omega
            · intro j o hj hne; dsimp only; have := lt_of hj; rw [hsv]; exact keep_next j o (app_keep (p4 _ _ hj hne) _) hne (by omega)
            · dsimp only; rw [hsv, List.getElem?_set_self (by simp; omega)]
            · dsimp only; rw [hsc, hsv]; exact tx_next (app_keep hqs _) hq (Ne.symm hqk)
      · obtain rfl : m = l.outs.length := by omega
        have hrok := hok1 p2
        have hxv : TxV (S.length + 1) S2 x (cellsT l l.cells.length) := g6.keep (Nat.le_refl _) (fun q ys hq hqs => p4 q _ hqs (by omega))
        have hxs := hxv.scalar
        have hys := p6.scalar
        have hrv : RowV S2 (.agg [x, y]) ⟨cellsT l l.cells.length, outsT l l.outs.length⟩ := ⟨x, y, rfl, hxv.keep (Nat.zero_le _) (fun _ _ _ h => h), p6.keep (Nat.zero_le _) (fun _ _ _ h => h)⟩
        have hfit : ([AV.agg [x, y]].all fun a => AV.fits ⟨true, 2⟩ a) = true := by simp only [AV.fits, List.length_cons, List.length_nil, List.all_cons, List.all_nil, hxs, hys]; rfl
        have hfit2 : AV.fits ⟨true, 2⟩ (.agg [x, y]) = true := by simpa using hfit
        have hkS : ∀ (q : Nat) (o : AObj), S[q]? = some o → q ≠ 4 → S2[q]? = some o := fun q o hq hne => p4 q o (g4 q o hq hne) hne
        rcases h4 with ⟨h4, rfl⟩ | ⟨h4, q, rs, hq, rfl, hqs, hr⟩
        · have hap : ∀ d : AObj, (S2 ++ [d])[3]? = some (oTab t .nils) := fun d => app_keep e3 d
          repeat' first | simp (disch := omega) only [go_sem, hQr, hQn, hQp, wrapK_i64, wrapK_u8, wrapK_u64, Nat.reduceAdd, Nat.reduceBEq, ↓reduceIte, e0, e1, e2, e3, p5, hap, hfit, hfit2, hlN] | refine go_ ?_ | refine br_ (fun hw => ?_) (fun hw => ?_) <;> try omega | fail
          refine ⟨(n + 1, _), ⟨by omega, before_succ (q := fun j => (rowN t j).2.2 = 0) h2 (by rw [hrow, hln, hlN, hrok]), ?_, ?_, ?_, ?_, ⟨.own ER S2.length 1 0 1, ?_, ?_⟩, x, y, ?_⟩, by dsimp only; omega, rfl, ou_, at_⟩
          · dsimp only; simp; omega
          · exact keep_first _ _ e0 (by omega)
          · exact keep_first _ _ e1 (by omega)
          · exact keep_first _ _ e2 (by omega)
          · dsimp only; rw [List.getElem?_set_self (by simp; omega)]
          · dsimp only
            rw [hrl, h4]
            refine .inr ⟨by simp, S2.length, [.agg [x, y]], by omega, rfl, ?_, RowsV.keep (fun q ys hq => keep_first _ _ hq (fun e => by subst e; rw [e3] at hq; cases hq)) (RowsV.snoc (RowsV.nil S2) hrv)⟩
            rw [List.getElem?_set_ne (by omega)]; simp
          · exact keep_first _ _ p5 (by omega)
        · have hq3 : q ≠ 3 := by omega
          have e4 := hkS _ _ hqs (by omega)
          rw [len_rowsL] at e3
          have hrn : rs.length = n := by rw [hr.1, len_rowsL]
          have hap : ∀ d : AObj, (S2.set q d)[3]? = some (oTab t (.own ER q n 0 n)) := fun d => by rw [List.getElem?_set_ne hq3]; exact e3
          repeat' first | simp (disch := omega) only [go_sem, hQr, hQn, hQp, wrapK_i64, wrapK_u8, wrapK_u64, Nat.reduceAdd, Nat.reduceBEq, ↓reduceIte, e0, e1, e2, e3, p5, hap, hfit, hfit2, e4, hlN, hrn] | refine go_ ?_ | refine br_ (fun hw => ?_) (fun hw => ?_) <;> try omega | fail
          refine ⟨(n + 1, _), ⟨by omega, before_succ (q := fun j => (rowN t j).2.2 = 0) h2 (by rw [hrow, hln, hlN, hrok]), ?_, ?_, ?_, ?_, ⟨.own ER q (n + 1) 0 (n + 1), ?_, ?_⟩, x, y, ?_⟩, by dsimp only; omega, rfl, ou_, at_⟩
          · dsimp only; simp; omega
          · exact keep_next _ _ e0 (by omega) (by omega)
          · exact keep_next _ _ e1 (by omega) (by omega)
          · exact keep_next _ _ e2 (by omega) (by omega)
          · dsimp only; rw [List.getElem?_set_self (by simp; omega)]
          · dsimp only
            rw [hrl]
            have hr2 : RowsV S2 rs (rowsL t n) := hr.keep (fun q ys hq => hkS _ _ hq (fun e => by subst e; rw [f4] at hq; cases hq))
            refine .inr ⟨by simp, q, rs ++ [.agg [x, y]], hq, by simp [len_rowsL], ?_, RowsV.keep (fun p ys hp => keep_next _ _ hp (fun e => by subst e; rw [e3] at hp; cases hp) (fun e => by subst e; rw [e4] at hp; cases hp)) (RowsV.snoc hr2 hrv)⟩
            rw [List.getElem?_set_ne (Ne.symm hq3), List.getElem?_set_self (lt_of e4)]
          · exact keep_next _ _ p5 (by omega) (by omega)
  · obtain rfl : n = ls.length := by omega
    have hva : ([AV.str t.name, .lst false EC (t.ins.map eCol), .lst false EC (t.outs.map eCol), I t.policy, I t.agg, v].all AV.scalar) = true := by simp only [List.all_cons, List.all_nil, hvs]; rfl
    have hs1 : ∀ o, (S.set 1 o)[1]? = some o := fun o => List.getElem?_set_self (lt_of f1)
    repeat' first | simp (disch := omega) only [go_sem, hQr, hQn, hQp, wrapK_i64, wrapK_u8, wrapK_u64, Nat.reduceAdd, Nat.reduceBEq, ↓reduceIte, f0, f1, f2, f3, hva, hs1] | refine go_ ?_ | refine br_ (fun hw => ?_) (fun hw => ?_) <;> try omega | fail
    have h5 := h4.keep (S' := S.set 1 (oTab t v)) (fun q o hq hne => by
      rw [List.getElem?_set_ne (fun e => by subst e; rw [f1] at hq; cases hq; exact hne _ rfl)]; exact hq)
    rw [← hE, hco h2]
    exact leafN (view4 (View.agg' (.cons (.refl _ rfl) (.cons (.refl _ (pur_eCols _)) (.cons (.refl _ (pur_eCols _)) (.cons (.refl _ rfl) (.cons (.refl _ rfl) (.cons h5.view (.nil _)))))))))
end Go.Proofs.YthkhdedadacakaaGreatDoor
