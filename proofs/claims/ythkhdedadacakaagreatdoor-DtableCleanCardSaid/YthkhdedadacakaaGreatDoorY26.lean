/- Part of a proof: see Root. -/
import Derived.Test.YthkhdedadacakaaGreatDoorY25
import Derived.WalkKit
import Derived.ProofKit
import Derived.OpenShut
import Derived.ReadAgain
import Derived.Deep.SlicePairs
import Derived.Test.YthkhdedadacakaaGreatDoorRows
import Derived.LaidLaws
import Derived.LaidHandle
import Derived.Lib.LaidTab
set_option linter.unnecessarySimpa false
set_option linter.unusedSimpArgs false
set_option linter.unusedVariables false
namespace Go.Proofs.YthkhdedadacakaaGreatDoor
open Go.AM
set_option maxRecDepth 4000
theorem allN {α : Type} [Inhabited α] {p : α → Bool} {l : List α} (h : ∀ k, k < l.length → p (l.getD k default) = true) : l.all p = true := by
  rw [List.all_eq_true]
  intro x hx
  obtain ⟨i, hi, rfl⟩ := List.getElem_of_mem hx
  have := h i hi
  rwa [List.getD_eq_getElem?_getD, List.getElem?_eq_getElem hi, Option.getD_some] at this
theorem allF {α : Type} [Inhabited α] {p : α → Bool} {l : List α} {i : Nat} (hi : i < l.length) (h : p (l.getD i default) = false) : l.all p = false := by
  cases hq : l.all p with
  | false => rfl
  | true => rw [List.all_eq_true] at hq; rw [hq _ (getD_mem hi)] at h; cases h
def lenB (n : Nat) (s : Str) : Bool := decide (s.length ≤ n)
def txS (l : List Str) : Bool := decide (l.length ≤ 10) && l.all (lenB 300)
theorem law18_texts (l : List Str) : CallF Tryz.prog n_law18_texts [eStrs l] (.bool (txS l)) := by
  obtain ⟨E, hE⟩ : ∃ E, txS l = E := ⟨_, rfl⟩
  rw [hE]
  unfold txS at hE
  simp only [eStrs]
  refine CallF.of_nil (of_law18_texts (by simp) ?_) (by simp)
  unfold b_law18_texts WpR
  intro Q hQr hQn hQp
  repeat' first | refine go_ ?_ | refine br_ (fun hw => ?_) (fun hw => ?_) <;> try omega | fail
  · refine leafE ?_ rfl; rw [← hE, decide_eq_false (by omega), Bool.false_and]
  have h10 : l.length ≤ 10 := by omega
  rw [decide_eq_true h10, Bool.true_and] at hE
  with_reducible refine loop_i [2, 3, 7, 8, 9, 10, 11, 12, 13, 14, 15, 16, 17, 18] (fun i : Nat => [(3, I i)]) (fun _ => []) (fun i => i ≤ l.length ∧ ∀ k, k < i → lenB 300 (l.getD k default) = true) (fun i => l.length - i) (0) ?_ ?_ ?_ ?_
  · simp
  · rfl
  · exact at_
  rintro i r ⟨h1, h2⟩
  by_cases hi : i < l.length
  · have hne := fun h => allF (p := lenB 300) hi h
    have hbs := fun he => before_succ (q := fun k => lenB 300 (l.getD k default) = true) h2 (i := i) he
    have hS : lenB 300 (l.getD i default) = decide ((l.getD i default).length ≤ 300) := rfl
    rw [hS] at hne hbs
    repeat' first | refine go_ ?_ | refine br_ (fun hw => ?_) (fun hw => ?_) <;> try omega | fail
    all_goals first
      | exact ab_
      | (refine leafE ?_ rfl; rw [← hE, hne (decide_eq_false (by omega))])
      | (refine ⟨i + 1, ?_, ?_, by first | rfl | (simp [go_sem]; done), ou_, at_⟩ <;> (try dsimp only)
         · exact ⟨by omega, hbs (decide_eq_true (by omega))⟩
         · omega)
  · repeat' first | refine go_ ?_ | refine br_ (fun hw => ?_) (fun hw => ?_) <;> try omega | fail
    refine leafE ?_ rfl; rw [← hE, allN (fun k hk => h2 k (by omega))]
def nameB (c : Col) : Bool := decide (c.name.length ≤ 300)
def fewS (l : List Col) : Bool := decide (l.length ≤ 12) && l.all nameB
theorem law15_Few (l : List Col) : CallF Tryz.prog n_law15_Cols_Few [eCols l] (.bool (fewS l)) := by
  obtain ⟨E, hE⟩ : ∃ E, fewS l = E := ⟨_, rfl⟩
  rw [hE]
  unfold fewS at hE
  simp only [eCols]
  refine CallF.of_nil (of_law15_Cols_Few (by simp) ?_) (by simp)
  unfold b_law15_Cols_Few WpR
  intro Q hQr hQn hQp
  repeat' first | refine go_ ?_ | refine br_ (fun hw => ?_) (fun hw => ?_) <;> try omega | fail
  · refine leafE ?_ rfl; rw [← hE, decide_eq_false (by omega), Bool.false_and]
  have h10 : l.length ≤ 12 := by omega
  rw [decide_eq_true h10, Bool.true_and] at hE
  with_reducible refine loop_i [2, 3, 7, 8, 9, 10, 11, 12, 13, 14, 15, 16, 17, 18, 19] (fun i : Nat => [(3, I i)]) (fun _ => []) (fun i => i ≤ l.length ∧ ∀ k, k < i → nameB (l.getD k default) = true) (fun i => l.length - i) (0) ?_ ?_ ?_ ?_
  · simp
  · rfl
  · exact at_
  rintro i r ⟨h1, h2⟩
  by_cases hi : i < l.length
  · have hne := fun h => allF (p := nameB) hi h
    have hbs := fun he => before_succ (q := fun k => nameB (l.getD k default) = true) h2 (i := i) he
    have hS : nameB (l.getD i default) = decide ((l.getD i default).name.length ≤ 300) := rfl
    rw [hS] at hne hbs
    repeat' first | refine go_ ?_ | refine br_ (fun hw => ?_) (fun hw => ?_) <;> try omega | fail
    all_goals first
      | exact ab_
      | (refine leafE ?_ rfl; rw [← hE, hne (decide_eq_false (by omega))])
      | (refine ⟨i + 1, ?_, ?_, by first | rfl | (simp [go_sem]; done), ou_, at_⟩ <;> (try dsimp only)
         · exact ⟨by omega, hbs (decide_eq_true (by omega))⟩
         · omega)
  · repeat' first | refine go_ ?_ | refine br_ (fun hw => ?_) (fun hw => ?_) <;> try omega | fail
    refine leafE ?_ rfl; rw [← hE, allN (fun k hk => h2 k (by omega))]
def valB (v : Val) : Bool := decide (v.s.length ≤ 300)
def colB (c : Col) : Bool := decide (c.order.length ≤ 12) && c.order.all valB
def ordS (l : List Col) : Bool := fewS l && l.all colB
theorem law18_order (l : List Col) : CallF Tryz.prog n_law18_order [eCols l] (.bool (ordS l)) := by
  have cf := law15_Few l
  obtain ⟨E, hE⟩ : ∃ E, ordS l = E := ⟨_, rfl⟩
  rw [hE]
  unfold ordS at hE
  have h12 : fewS l = true → l.length ≤ 12 := fun h => by simp only [fewS, Bool.and_eq_true, decide_eq_true_eq] at h; exact h.1
  simp only [eCols] at cf ⊢
  generalize fewS l = fe at *
  refine CallF.of_nil (of_law18_order (by simp) ?_) (by simp)
  unfold b_law18_order WpR
  intro Q hQr hQn hQp
  cases fe with
  | false =>
    repeat' first | refine go_ ?_ | refine cf_ cf ?_ | refine br_ (fun hw => ?_) (fun hw => ?_) <;> try omega | fail
    all_goals first
      | exact ab_
      | (refine leafE ?_ rfl; rw [← hE, Bool.false_and])
  | true =>
    rw [Bool.true_and] at hE
    have h12 := h12 rfl
    repeat' first | refine go_ ?_ | refine cf_ cf ?_ | refine br_ (fun hw => ?_) (fun hw => ?_) <;> try omega | fail
    all_goals first | exact ab_ | skip
    with_reducible refine loop_i [2, 3, 4, 8, 9, 10, 11, 12, 13, 14, 15, 16, 17, 18, 19, 20, 21, 22, 23, 24, 25, 26, 27, 28, 29, 30, 31, 32, 33, 34, 35, 36, 37, 38, 39, 40, 41] (fun i : Nat => [(3, I i)]) (fun _ => []) (fun i => i ≤ l.length ∧ ∀ k, k < i → colB (l.getD k default) = true) (fun i => l.length - i) (0) ?_ ?_ ?_ ?_
    · simp
    · rfl
    · exact at_
    rintro i r ⟨h1, h2⟩
    by_cases hi : i < l.length
    · have hne := fun h => allF (p := colB) hi h
      have hbs := fun he => before_succ (q := fun k => colB (l.getD k default) = true) h2 (i := i) he
      have hS : colB (l.getD i default) = (decide ((l.getD i default).order.length ≤ 12) && (l.getD i default).order.all valB) := rfl
      rw [hS] at hne hbs
      obtain ⟨c, hc⟩ : ∃ c, l.getD i default = c := ⟨_, rfl⟩
      rw [hc] at hne hbs
      clear hS
      repeat' first | simp (disch := omega) only [go_sem, hQr, hQn, hQp, wrapK_i64, wrapK_u8, wrapK_u64, Nat.reduceAdd, Nat.reduceBEq, ↓reduceIte, hc] | refine go_ ?_ | refine br_ (fun hw => ?_) (fun hw => ?_) <;> try omega | fail
      · refine leafE ?_ rfl; rw [← hE, hne (by rw [decide_eq_false (by omega), Bool.false_and])]
      have ho : c.order.length ≤ 12 := by omega
      rw [decide_eq_true ho, Bool.true_and] at hne hbs
      with_reducible refine loop_i [2, 4, 21, 22, 23, 24, 25, 26, 27, 28, 29, 30, 31, 32, 33, 34, 35, 36, 37, 38, 39, 40, 41] (fun j : Nat => [(4, I j)]) (fun _ => []) (fun j => j ≤ c.order.length ∧ ∀ k, k < j → valB (c.order.getD k default) = true) (fun j => c.order.length - j) (0) ?_ ?_ ?_ ?_
      · simp
      · rfl
      · exact at_
      rintro j r2 ⟨g1, g2⟩
      by_cases hj : j < c.order.length
      · have hne2 := fun h => allF (p := valB) hj h
        have hbs2 := fun he => before_succ (q := fun k => valB (c.order.getD k default) = true) g2 (i := j) he
        have hS : valB (c.order.getD j default) = decide ((c.order.getD j default).s.length ≤ 300) := rfl
        rw [hS] at hne2 hbs2
        repeat' first | simp (disch := omega) only [go_sem, hQr, hQn, hQp, wrapK_i64, wrapK_u8, wrapK_u64, Nat.reduceAdd, Nat.reduceBEq, ↓reduceIte, hc] | refine go_ ?_ | refine br_ (fun hw => ?_) (fun hw => ?_) <;> try omega | fail
        all_goals first
          | exact ab_
          | (refine leafE ?_ rfl; rw [← hE, hne (hne2 (decide_eq_false (by omega)))])
          | (refine ⟨j + 1, ?_, ?_, by first | rfl | (simp [go_sem]; done), ou_, at_⟩ <;> (try dsimp only)
             · exact ⟨by omega, hbs2 (decide_eq_true (by omega))⟩
             · omega)
      · repeat' first | simp (disch := omega) only [go_sem, hQr, hQn, hQp, wrapK_i64, wrapK_u8, wrapK_u64, Nat.reduceAdd, Nat.reduceBEq, ↓reduceIte, hc] | refine go_ ?_ | refine br_ (fun hw => ?_) (fun hw => ?_) <;> try omega | fail
        refine ⟨i + 1, ?_, ?_, by first | rfl | (simp [go_sem]; done), ou_, at_⟩ <;> (try dsimp only)
        · exact ⟨by omega, hbs (allN (fun k hk => g2 k (by omega)))⟩
        · omega
    · repeat' first | refine go_ ?_ | refine br_ (fun hw => ?_) (fun hw => ?_) <;> try omega | fail
      refine leafE ?_ rfl; rw [← hE, allN (fun k hk => h2 k (by omega))]
def rulB (r : Rule) : Bool := txS r.cells && txS r.outs
def smallT (t : Table) : Bool := decide (t.name.length ≤ 300) && decide (t.rules.length ≤ 26) && ordS t.ins && ordS t.outs && t.rules.all rulB
theorem law18_Small (t : Table) : CallF Tryz.prog n_law18_T_Small [eTable t] (.bool (smallT t)) := by
  have ci := law18_order t.ins
  have co := law18_order t.outs
  obtain ⟨E, hE⟩ : ∃ E, smallT t = E := ⟨_, rfl⟩
  rw [hE]
  unfold smallT at hE
  simp only [eTable, cTable, eCols, eRules] at ci co ⊢
  generalize ordS t.ins = oi at *
  generalize ordS t.outs = oo at *
  refine CallF.of_nil (of_law18_T_Small (by simp) ?_) (by simp)
  unfold b_law18_T_Small WpR
  intro Q hQr hQn hQp
  by_cases hb : (decide (t.name.length ≤ 300) && decide (t.rules.length ≤ 26) && oi && oo) = true
  case neg =>
    simp only [Bool.not_eq_true] at hb
    rw [hb, Bool.false_and] at hE
    cases oi <;> cases oo
    all_goals
      repeat' first | refine go_ ?_ | refine cf_ ci ?_ | refine cf_ co ?_ | refine br_ (fun hw => ?_) (fun hw => ?_) <;> try omega | fail
    all_goals first
      | exact ab_
      | (refine leafE ?_ rfl; rw [← hE])
      | (exfalso; simp at hb; omega)
  rw [hb, Bool.true_and] at hE
  simp only [Bool.and_eq_true, decide_eq_true_eq] at hb
  obtain ⟨⟨⟨b1, b2⟩, rfl⟩, rfl⟩ := hb
  repeat' first | refine go_ ?_ | refine cf_ ci ?_ | refine cf_ co ?_ | refine br_ (fun hw => ?_) (fun hw => ?_) <;> try omega | fail
  all_goals first | exact ab_ | skip
  with_reducible refine loop_i [2, 3, 26, 27, 28, 29, 30, 31, 32, 33, 34, 35, 36, 37, 38, 39, 40, 41, 42, 43, 44, 45, 46, 47, 48, 49, 50] (fun i : Nat => [(3, I i)]) (fun _ => [.cells [.str t.name, .lst false EC (t.ins.map eCol), .lst false EC (t.outs.map eCol), I t.policy, I t.agg, .lst false ER (t.rules.map eRule)]]) (fun i => i ≤ t.rules.length ∧ ∀ k, k < i → rulB (t.rules.getD k default) = true) (fun i => t.rules.length - i) (0) ?_ ?_ ?_ ?_
  · simp
  · rfl
  · exact at_
  rintro i r ⟨h1, h2⟩
  by_cases hi : i < t.rules.length
  · have hne := fun h => allF (p := rulB) hi h
    have hbs := fun he => before_succ (q := fun k => rulB (t.rules.getD k default) = true) h2 (i := i) he
    have hS : rulB (t.rules.getD i default) = (txS (t.rules.getD i default).cells && txS (t.rules.getD i default).outs) := rfl
    have c1 := law18_texts (t.rules.getD i default).cells
    have c2 := law18_texts (t.rules.getD i default).outs
    rw [hS] at hne hbs
    simp only [eStrs] at c1 c2
    generalize txS (t.rules.getD i default).cells = u1 at *
    generalize txS (t.rules.getD i default).outs = u2 at *
    cases u1 <;> cases u2
    all_goals
      repeat' first | refine go_ ?_ | refine cf_ c1 ?_ | refine cf_ c2 ?_ | refine br_ (fun hw => ?_) (fun hw => ?_) <;> try omega | fail
    all_goals first
      | exact ab_
      | (refine leafE ?_ rfl; rw [← hE, hne rfl])
      | (refine ⟨i + 1, ?_, ?_, by first | rfl | (simp [go_sem]; done), ou_, at_⟩ <;> (try dsimp only)
         · exact ⟨by omega, hbs rfl⟩
         · omega)
  · repeat' first | refine go_ ?_ | refine br_ (fun hw => ?_) (fun hw => ?_) <;> try omega | fail
    refine leafE ?_ rfl; rw [← hE, allN (fun k hk => h2 k (by omega))]
end Go.Proofs.YthkhdedadacakaaGreatDoor
namespace Go.Proofs.YthkhdedadacakaaGreatDoor
open Go.AM
set_option maxRecDepth 8000
def exT : Table := ⟨[116], [⟨[97], 1, []⟩], [⟨[111], 2, []⟩], 2, 0, [⟨[[60, 53]], [[34, 120, 34]]⟩]⟩
theorem ex_make : (makeS exT).2 = (0, 0, 0) ∧ (makeS exT).1.lines.length = 1 := ⟨by kernel_rfl, by kernel_rfl⟩
theorem ex_clean : (cleanS exT).2 = (0, 0, 0) ∧ (cleanS exT).1.rules = [⟨[[60, 32, 53]], [[34, 120, 34]]⟩] := ⟨by kernel_rfl, by kernel_rfl⟩
def rngV (v : Val) : Prop := -9223372036854775808 ≤ v.n ∧ v.n ≤ 9223372036854775807
def rngC (l : List Col) : Prop := ∀ c ∈ l, ∀ v ∈ c.order, rngV v
def rngT (t : Table) : Prop := rngC t.ins ∧ rngC t.outs
theorem ok_cols {l : List Col} (h : ordS l = true) (hr : rngC l) : l.length ≤ 12 ∧ ∀ c ∈ l, okCol c := by
  simp only [ordS, fewS, Bool.and_eq_true, decide_eq_true_eq, List.all_eq_true] at h
  obtain ⟨⟨h1, h2⟩, h3⟩ := h
  refine ⟨h1, fun c hc => ?_⟩
  have a := h2 c hc
  have b := h3 c hc
  simp only [nameB, colB, Bool.and_eq_true, decide_eq_true_eq, List.all_eq_true] at a b
  refine ⟨by omega, by omega, fun v hv => ⟨hr c hc v hv, ?_⟩⟩
  have := b.2 v hv
  simp only [valB, decide_eq_true_eq] at this
  omega
theorem tx_small {l : List Str} (h : txS l = true) : l.length ≤ 10 ∧ ∀ s ∈ l, s.length ≤ 300 := by
  simp only [txS, Bool.and_eq_true, decide_eq_true_eq, List.all_eq_true] at h
  exact ⟨h.1, fun s hs => by have := h.2 s hs; simpa [lenB] using this⟩
theorem ok_small {t : Table} (h : smallT t = true) (hr : rngT t) : okTab t := by
  simp only [smallT, Bool.and_eq_true, decide_eq_true_eq, List.all_eq_true] at h
  obtain ⟨⟨⟨⟨h1, h2⟩, h3⟩, h4⟩, h5⟩ := h
  have ci := ok_cols h3 hr.1
  have co := ok_cols h4 hr.2
  refine ⟨by omega, ⟨by omega, ci.2⟩, ⟨by omega, co.2⟩, by omega, fun r hrr => ?_⟩
  have := h5 r hrr
  simp only [rulB, Bool.and_eq_true] at this
  have a := tx_small this.1
  have b := tx_small this.2
  exact ⟨⟨by omega, fun s hs => by have := a.2 s hs; omega⟩, by omega, fun s hs => by have := b.2 s hs; omega⟩
theorem law18_example : CallF Tryz.prog n_law18_example [] (eTable exT) := by
  obtain ⟨E, hE⟩ : ∃ E, eTable exT = E := ⟨_, rfl⟩
  rw [hE]
  refine CallF.of_nil (of_law18_example (by simp) ?_) rfl
  unfold b_law18_example WpR
  intro Q hQr hQn hQp
  repeat' first | refine go_ ?_ | refine br_ (fun hw => ?_) (fun hw => ?_) <;> try omega | fail
  rw [← hE]
  refine leaf1 ?_
  have v1 : ∀ σ s (k : Int), View σ (.agg [.str s, I k, .nils]) (eCol ⟨s, k, []⟩) := fun σ s k => View.agg' (.cons (.refl _ rfl) (.cons (.refl _ rfl) (.cons (.nils _) (.nil _))))
  have v2 : ∀ σ s, View σ (.lst true E1 [.str s]) (eStrs [s]) := fun σ s => .weak _ _ _ rfl
  exact View.agg' (.cons (.refl _ rfl) (.cons (View.lstL (.cons (v1 _ _ _) (.nil _))) (.cons (View.lstL (.cons (v1 _ _ _) (.nil _))) (.cons (.refl _ rfl) (.cons (.refl _ rfl) (.cons (View.lstL (.cons (View.agg' (.cons (v2 _ _) (.cons (v2 _ _) (.nil _)))) (.nil _))) (.nil _)))))))
theorem law18_lives : CallF Tryz.prog n_law18_lives [] (.bool true) := by
  have ce := law18_example
  have ok : okTab exT := ok_small (by decide) ⟨fun c hc v hv => (by simp [exT] at hc; subst hc; cases hv), fun c hc v hv => (by simp [exT] at hc; subst hc; cases hv)⟩
  have c1 := dtable_Make exT ok
  have c2 := dtable_Clean exT ok
  have f1 := ex_make
  have f2 := ex_clean
  generalize makeS exT = M at *
  generalize cleanS exT = C at *
  obtain ⟨M, m1, m2, m3⟩ := M
  obtain ⟨C, d1, d2, d3⟩ := C
  obtain ⟨⟨rfl, rfl, rfl⟩, f1⟩ := f1
  obtain ⟨⟨rfl, rfl, rfl⟩, f2⟩ := f2
  generalize exT = X at *
  simp only [eR4, eT4, eReady, eTable, cTable, eCols, eRules, eLines] at ce c1 c2
  dsimp only at f1 f2
  rw [f2] at c2
  refine CallF.of_nil (of_law18_lives (by simp) ?_) rfl
  unfold b_law18_lives WpR
  intro Q hQr hQn hQp
  repeat' first | simp (disch := omega) only [go_sem, hQr, hQn, hQp, wrapK_i64, wrapK_u8, wrapK_u64, Nat.reduceAdd, Nat.reduceBEq, ↓reduceIte, f1] | refine go_ ?_ | refine cf_ ce ?_ | refine cf_ c1 ?_ | refine cf_ c2 ?_ | refine br_ (fun hw => ?_) (fun hw => ?_) <;> try omega | fail
  exact leafE rfl rfl
end Go.Proofs.YthkhdedadacakaaGreatDoor
namespace Go.Proofs.YthkhdedadacakaaGreatDoor
open Go.AM
set_option maxRecDepth 4000
theorem eqL_refl {α : Type} {p : α → α → Bool} (l : List α) (h : ∀ x ∈ l, p x x = true) : eqL p l l = true := by
  induction l with
  | nil => rfl
  | cons x l ih => simp only [eqL, h x (by simp), Bool.true_and]; exact ih (fun y hy => h y (List.mem_cons_of_mem _ hy))
theorem sameS_refl (x : Expr) : sameS x x = true := by
  induction x using Expr.ind with
  | h op v s l ih =>
    simp only [sameS, Expr.op, Expr.v, Expr.s, Expr.l, decide_true, Bool.true_and]
    rw [sameL_eq]; exact eqL_refl l ih
theorem sameC_refl (c : Cell) : sameC c c = true := by
  unfold sameC
  rw [eqL_refl c.tests (fun t _ => by simp [sameT, sameS_refl])]
  simp
theorem sameLn_refl (l : Line) : sameLn l l = true := by
  unfold sameLn
  rw [eqL_refl l.cells (fun c _ => sameC_refl c), eqL_refl l.outs (fun x _ => sameS_refl x)]; rfl
theorem sameLns_refl (l : List Line) : eqL sameLn l l = true := eqL_refl l (fun x _ => sameLn_refl x)
theorem sameTab_refl (t : Table) : sameTab t t = true := by
  have hc : ∀ l : List Col, eqL sameCol l l = true := fun l => eqL_refl l (fun c _ => by
    unfold sameCol; rw [eqL_refl c.order (fun v _ => by simp)]; simp)
  have hr : ∀ l : List Rule, eqL sameRule l l = true := fun l => eqL_refl l (fun r _ => by
    unfold sameRule; rw [eqL_refl r.cells (fun v _ => by simp), eqL_refl r.outs (fun v _ => by simp)]; rfl)
  unfold sameTab
  rw [hc, hc, hr]; simp
theorem sameRdy_refl (r : Ready) : sameRdy r r = true := by unfold sameRdy; rw [sameTab_refl, sameLns_refl]; rfl
theorem sm_cols {l : List Col} (h : l.length ≤ 2 ^ 30 ∧ ∀ c ∈ l, okCol c) : smCols l := ⟨by omega, fun c hc => (h.2 c hc).2.1⟩
theorem sm_tab {t : Table} (h : okTab t) : smTab t := ⟨sm_cols h.2.1, sm_cols h.2.2.1, by have := h.2.2.2.1; omega, fun r hr => by
  have := h.2.2.2.2 r hr; exact ⟨by omega, by omega⟩⟩
theorem sm_line {l : Line} (h : okLine l) : smLn l := by
  refine ⟨⟨by have := h.1.1; omega, fun c hc => ?_⟩, by have := h.2.1; omega, fun x hx => brX_sz _ (by have := (h.2.2 x hx).2; omega)⟩
  have := h.1.2 c hc
  exact ⟨by have := this.1; omega, fun t ht => by
    obtain ⟨⟨_, a⟩, _, b⟩ := this.2 t ht
    exact ⟨brX_sz _ (by omega), brX_sz _ (by omega)⟩⟩
theorem sm_tab0 : smTab table0 := ⟨⟨by decide, fun c hc => (by cases hc)⟩, ⟨by decide, fun c hc => (by cases hc)⟩, by decide, fun c hc => (by cases hc)⟩
theorem make_1 (t : Table) : (makeS t).2.2.2 = 0 ∨ (makeS t).1 = ready0 := by
  by_cases h : frameS t = 0
  · unfold makeS
    rw [if_neg (by omega)]
    split
    · exact .inr rfl
    · exact .inl rfl
  · rw [makeS_frame h]; exact .inr rfl
theorem lines_ok {t : Table} (h : okTab t) (h0 : (makeS t).2.2.2 = 0) : (makeS t).1.lines.length ≤ 2 ^ 30 ∧ ∀ x ∈ (makeS t).1.lines, okLine x := by
  obtain ⟨h1, h2⟩ := makeS_lines h h0
  refine ⟨by have := h.2.2.2.1; omega, fun x hx => ?_⟩
  obtain ⟨i, hi, rfl⟩ := List.getElem_of_mem hx
  have := h2 i
  unfold lineN at this
  rwa [List.getD_eq_getElem?_getD, List.getElem?_eq_getElem hi, Option.getD_some] at this
theorem sm_make {t : Table} (h : okTab t) : smTab (makeS t).1.table ∧ smLns (makeS t).1.lines := by
  rcases make_1 t with h0 | h0
  · obtain ⟨h1, h2⟩ := lines_ok h h0
    refine ⟨?_, by omega, fun x hx => sm_line (h2 x hx)⟩
    rw [(makeS_zero h0).2.2]; exact sm_tab h
  · rw [h0]
    exact ⟨sm_tab0, by decide, fun x hx => (by cases hx)⟩
theorem sm_clean {t : Table} (h : okTab t) : smTab (cleanS t).1 := by
  by_cases he : (makeS t).2.2.2 = 0
  · unfold cleanS
    rw [if_neg (by omega)]
    split
    · exact sm_tab0
    · obtain ⟨a, b, c, d⟩ := sm_tab h
      obtain ⟨h1, h2⟩ := makeS_lines h he
      refine ⟨a, b, ?_, fun r hr => ?_⟩
      · dsimp only; rw [len_rowsL]; omega
      · obtain ⟨k, _, rfl⟩ := List.mem_map.1 hr
        have hk := h2 k
        unfold rowN
        rw [rowS_1]
        refine ⟨?_, ?_⟩
        · dsimp only; rw [len_cellsT]; have := hk.1.1; omega
        · dsimp only; rw [len_outsT]; have := hk.2.1; omega
  · rw [cleanS_make he]; exact sm_tab0
end Go.Proofs.YthkhdedadacakaaGreatDoor
namespace Go.AM
open Go.ChangeShapes Go.WideShapes
section
variable {H : Type} {enc : TypeId × Value → H} {P : Program} {w w' : World} {base : Nat} {spare : Nat → Bool} {held : Bool}
theorem DataW_TrodAll_carry : ∀ {ts : List TypeId} {vs : List Value} {ds : List (DataW H)} {ps : List MemPlace}, DataW.TrodAll enc P w base spare held ts vs ds ps → (∀ p ∈ ps, w.sameAt w' p) → DataW.TrodAll enc P w' base spare held ts vs ds ps
  | [], [], [], _, h, _ => h
  | _ :: _, _ :: _, _ :: _, _, ⟨p, q, ⟨n, hn⟩, h2, e⟩, hs => ⟨p, q, ⟨n, DataW.trod_carry n _ _ _ hn (fun x hx => hs x (by rw [e]; exact List.mem_append_left _ hx))⟩, DataW_TrodAll_carry h2 (fun x hx => hs x (by rw [e]; exact List.mem_append_right _ hx)), e⟩
theorem keptBut_of_heap {may : MemPlace → Prop} (h1 : w'.os = w.os) (h2 : w'.output = w.output) (h3 : ∀ b, b < w.heap.size → w'.heap[b]? = w.heap[b]?) : w.keptBut w' may := by
  refine ⟨h1, h2, fun i hi => ?_⟩
  rw [h3 i hi]
  split
  · rename_i a b ha hb
    rw [ha] at hb
    cases Option.some.inj hb
    exact ⟨rfl, rfl, rfl, fun _ _ => rfl⟩
  · rename_i a b ha hb
    rw [ha] at hb
    cases Option.some.inj hb
    exact .inr ⟨rfl, rfl⟩
  · rfl
theorem sameAt_of_heap (h3 : ∀ b, b < w.heap.size → w'.heap[b]? = w.heap[b]?) {p : MemPlace} (hp : p.block < w.heap.size) : w.sameAt w' p := by
  cases p with
  | cell b off => exact cell?_of_heap (h3 b hp) off none
  | map b => exact h3 b hp
def Ghost.all (w : World) : Ghost := Ghost.bare (· < w.heap.size)
theorem Said_of_CallF {f : FuncId} {fn : Func} {s : ChangeSpec} {t : TypeId} {args' : List AV} {W : World} {args : Array Value} {ds gs : List (DataW H)} {before : List MemPlace}
    (h : CallF P f args' (.bool true)) (hW : DataW.Whole enc P fn.params.toList s.vars false W args.toList ds gs before) (hG : GlobR (Ghost.all W) W)
    (K : Kids P (· < P.types.size)) (hz : ∀ t e, t < P.types.size → P.underlying t = some (.slice e) → 0 < P.cellsOf e) (hps : ∀ t ∈ fn.params.toList, t < P.types.size)
    (hvars : s.vars = []) (hrt : fn.resultTypes = #[t]) (ht : P.underlying t = some .bool) (hfn : s.fn H (ds ++ gs) = { results := [.lit (.bool true)], args := ds, vars := [] })
    (hl : args'.length = args.size) (hv : ∀ i, i < args'.length → VR (Ghost.all W) W (args'.getD i .undef) (args.getD i Go.undef)) :
    Calls P f args W fun e W' => ∃ v, e = .returned v ∧ s.post enc P fn false true false false W args v W' := by
  refine ((h []).2 (Ghost.all W) W args (Rel.bare (fun _ h => h) hG) hl hv).mono ?_
  rintro e W' ⟨out, g', σ', hR, hE, hO, rfl, rfl⟩
  have hfr : ∀ b, b < W.heap.size → W'.heap[b]? = W.heap[b]? := fun b hb => hE.frame b hb not_tracked_nil
  cases e with
  | panicked c => exact hO.elim
  | outgrown => exact hO.elim
  | returned v =>
    have hb : v = .bool true := by cases hO; rfl
    subst hb
    refine ⟨_, rfl, ds, gs, before, [], before, [], hW, ?_, ?_, ?_, keptBut_of_heap hE.os hE.output hfr, fun h => by cases h⟩
    · rw [hfn, hrt]
      exact trodAll_mk1 (RowKit.shut_bool ht true)
    · rw [hfn]
      have hlt := hW.lt
      obtain ⟨p, q, h1, h2, rfl, _, _⟩ := hW
      rw [hvars] at h2
      obtain ⟨rfl, rfl⟩ := trodVars_none h2
      rw [List.append_nil] at hlt ⊢
      refine DataW_TrodAll_carry (DataW.TrodAll.respare K hz hps h1 (fun x hx => by simpa using hlt x hx)) (fun x hx => sameAt_of_heap hfr (hlt x hx))
    · rw [hfn, hvars]
      rfl
theorem VR.string {g : Ghost} {w : World} (s : ByteArray) : VR g w (.str s.data.toList) (.string s) := VR.str s.data.toList
end
end Go.AM
namespace Go.AM
open Go.ChangeShapes Go.WideShapes
def VRL (g : Ghost) (w : World) (az : List AV) (vs : List Value) : Prop := az.length = vs.length ∧ ∀ i, i < az.length → VR g w (az.getD i .undef) (vs.getD i Go.undef)
theorem VRL.nil (g : Ghost) (w : World) : VRL g w [] [] := ⟨rfl, fun i hi => by cases hi⟩
theorem VRL.app {g : Ghost} {w : World} {a b : List AV} {x y : List Value} (h : VRL g w a x) (k : VRL g w b y) : VRL g w (a ++ b) (x ++ y) := by
  have h1 := h.1
  refine ⟨by simp [h.1, k.1], fun i hi => ?_⟩
  rw [List.length_append] at hi
  by_cases hl : i < a.length
  · have := h.2 i hl
    rw [List.getD_eq_getElem?_getD, List.getD_eq_getElem?_getD] at this ⊢
    rw [List.getElem?_append_left hl, List.getElem?_append_left (by omega)]
    exact this
  · have := k.2 (i - a.length) (by omega)
    rw [List.getD_eq_getElem?_getD, List.getD_eq_getElem?_getD] at this ⊢
    rw [List.getElem?_append_right (by omega), List.getElem?_append_right (by omega), ← h1]
    exact this
theorem VRL.one {g : Ghost} {w : World} {a : AV} {x : Value} (h : VR g w a x) : VRL g w [a] [x] := ⟨rfl, fun i hi => by
  match i, hi with
  | 0, _ => exact h⟩
theorem VRL.agg {g : Ghost} {w : World} {az : List AV} {vs : Array Value} (h : VRL g w az vs.toList) (hs : az.all AV.scalar = true) : VR g w (.agg az) (.agg vs) := by
  refine .agg az vs (by simpa using h.1) hs (fun i hi => ?_)
  have := h.2 i hi
  simpa [List.getD_eq_getElem?_getD, Array.getD_eq_getD_getElem?] using this
section
variable {H : Type} {enc : TypeId × Value → H} {P : Program} {w : World}
def Reads (enc : TypeId × Value → H) (P : Program) (w : World) (N : Nat) (t : TypeId) (n : Nat) {α : Type} (E : α → List AV) (G : α → Prop) : Prop :=
  P.cellsOf t = n ∧ (∀ a, (E a).length = n) ∧ ∀ fuel cs x, fuel ≤ N → DataW.trod enc P w 0 (fun _ => true) true fuel t cs = some x → ∃ a, G a ∧ VRL (Ghost.all w) w (E a) cs
theorem Reads.weak {N t n : Nat} {α : Type} {E : α → List AV} {G G' : α → Prop} (h : Reads enc P w N t n E G) (hg : ∀ a, G a → G' a) : Reads enc P w N t n E G' :=
  ⟨h.1, h.2.1, fun f cs x hf hx => by obtain ⟨a, h1, h2⟩ := h.2.2 f cs x hf hx; exact ⟨a, hg a h1, h2⟩⟩
theorem Reads.map {N t n : Nat} {α β : Type} {E : α → List AV} {G : α → Prop} {E' : β → List AV} {G' : β → Prop} (h : Reads enc P w N t n E G) (f : α → β) (hE : ∀ a, E' (f a) = E a) (hl : ∀ b, (E' b).length = n) (hg : ∀ a, G a → G' (f a)) : Reads enc P w N t n E' G' :=
  ⟨h.1, hl, fun fu cs x hf hx => by obtain ⟨a, h1, h2⟩ := h.2.2 fu cs x hf hx; exact ⟨f a, hg a h1, by rw [hE]; exact h2⟩⟩
theorem Reads.int {N t : Nat} (ht : P.underlying t = some (.int .i64)) (hc : P.cellsOf t = 1) : Reads enc P w N t 1 (fun n : Int => [.int .i64 n]) (fun n => -9223372036854775808 ≤ n ∧ n ≤ 9223372036854775807) :=
  ⟨hc, fun _ => rfl, fun f cs x _ hx => by
    obtain ⟨n, rfl, _, wf⟩ := DataW.trod_int ht hx
    exact ⟨n, by simpa [Lit.wf, IntKind.min, IntKind.max, IntKind.signed, IntKind.bits] using wf, VRL.one (.int _ _)⟩⟩
theorem Reads.str {N t : Nat} (ht : P.underlying t = some .string) (hc : P.cellsOf t = 1) : Reads enc P w N t 1 (fun s : List UInt8 => [.str s]) (fun _ => True) :=
  ⟨hc, fun _ => rfl, fun f cs x _ hx => by
    obtain ⟨s, rfl, _, _⟩ := DataW.trod_string ht hx
    exact ⟨s.data.toList, trivial, VRL.one (VR.string s)⟩⟩
theorem Reads.bool {N t : Nat} (ht : P.underlying t = some .bool) (hc : P.cellsOf t = 1) : Reads enc P w N t 1 (fun b : Bool => [.bool b]) (fun _ => True) :=
  ⟨hc, fun _ => rfl, fun f cs x _ hx => by
    obtain ⟨b, rfl, _⟩ := DataW.trod_bool ht hx
    exact ⟨b, trivial, VRL.one (.bool b)⟩⟩
theorem Reads.slice {N t e n : Nat} {α : Type} [Inhabited α] {E : α → List AV} {G : α → Prop} (el : El) (mk : α → AV) (ht : P.underlying t = some (.slice e)) (hc : P.cellsOf t = 1) (h : Reads enc P w N e n E G) (hn0 : 0 < n) (hsz : el.sz = n)
    (hfit : ∀ a, (mk a).fits el = true) (hcell : ∀ a c, c < n → (mk a).cell c = (E a).getD c .undef) : Reads enc P w (N + 1) t 1 (fun l : List α => [.lst false el (l.map mk)]) (fun l => ∀ a ∈ l, G a) := by
  refine ⟨hc, fun _ => rfl, fun fuel cs x hf hx => ?_⟩
  rcases DataW.trod_slice ht hx with ⟨rfl, rfl⟩ | ⟨a, len, cap, elems, rest, k, hk, rfl, _, _, hl, _, hlen, hel, _, _⟩
  · exact ⟨[], by simp, VRL.one (.lstE _ _ _ _ (fun h => by cases h))⟩
  have each : ∀ i, i < len → ∃ q : α, G q ∧ ∃ cs', w.cells? 0 (a.add (i * P.cellsOf e)) (P.cellsOf e) = some cs' ∧ VRL (Ghost.all w) w (E q) cs' := fun i hi => by
    have h1 := hel i hi
    rw [List.getElem?_eq_getElem (by omega)] at h1
    obtain ⟨cs', h2, h3⟩ := Option.bind_eq_some_iff.1 h1
    obtain ⟨q, h4, h5⟩ := h.2.2 k cs' _ (by omega) h3
    exact ⟨q, h4, cs', h2, h5⟩
  obtain ⟨q, hq⟩ := Deep.choose_lt each
  refine ⟨(List.range len).map q, fun x hx => by obtain ⟨i, hi, rfl⟩ := List.mem_map.1 hx; exact (hq i (List.mem_range.1 hi)).1, VRL.one ?_⟩
  have hn := h.1
  by_cases h0 : len = 0
  · subst h0; exact .lstE _ _ _ _ (fun h => by cases h)
  have hcells : ∀ i c, i < len → c < n → ∃ v, w.cell? (a.add (i * n + c)) = some v ∧ VR (Ghost.all w) w ((E (q i)).getD c .undef) v := fun i c hi hcc => by
    obtain ⟨_, cs', h2, h3⟩ := hq i hi
    rw [hn] at h2
    obtain ⟨_, h4, h5⟩ := World.cells?_some h2
    have h6 := h5 c hcc
    rw [Deep.add_add, List.getElem?_eq_getElem (by omega)] at h6
    have h7 := h3.2 c (by rw [h.2.1]; exact hcc)
    rw [List.getD_eq_getElem?_getD (l := cs'), List.getElem?_eq_getElem (by omega)] at h7
    exact ⟨_, h6, h7⟩
  obtain ⟨v0, hv0, _⟩ := hcells 0 0 (by omega) (by omega)
  have hspot : a.spot = none := by
    have := World.cell?_spot hv0
    simpa [Addr.add] using this
  obtain ⟨b, off, sp⟩ := a
  simp only at hspot
  subst hspot
  have hlt : b < w.heap.size := by
    rw [add_plain] at hv0
    simp only [World.cell?] at hv0
    split at hv0
    · rename_i x hx; exact (Array.getElem?_eq_some_iff.1 hx).1
    · cases hv0
  have hget : ∀ i, i < len → (((List.range len).map q).map mk).getD i .undef = mk (q i) := fun i hi => by
    simp [List.getD_eq_getElem?_getD, hi]
  have := VR.lst (g := Ghost.all w) (w := w) false el (((List.range len).map q).map mk) b off cap hlt (fun h => by cases h) (by simpa using hl)
    (fun i hi => by rw [hget i (by simpa using hi)]; exact hfit _)
    (fun i c hi hcc => by
      obtain ⟨v, hv, _⟩ := hcells i c (by simpa using hi) (by omega)
      rw [add_plain] at hv
      rw [hsz, hv]; rfl)
    (fun i c hi hcc => by
      obtain ⟨v, hv, hr⟩ := hcells i c (by simpa using hi) (by omega)
      rw [add_plain] at hv
      rw [hget i (by simpa using hi), cellD, hsz, hv, hcell _ _ (by omega)]
      exact hr)
  simpa using this
def FieldsR (enc : TypeId × Value → H) (P : Program) (w : World) (N : Nat) (fs : List Field) (o : Nat) {α : Type} (E : α → List AV) (G : α → Prop) : Prop :=
  ∀ (cs : List Value) (fuel : Nat) (ys : List (DataW H × List MemPlace)), fuel ≤ N → (∀ (i : Nat) (f : Field), fs[i]? = some f → DataW.trod enc P w 0 (fun _ => true) true fuel f.type ((cs.drop f.offset).take (P.cellsOf f.type)) = ys[i]?) → ys.length = fs.length →
    ∃ a, G a ∧ VRL (Ghost.all w) w (E a) ((cs.drop o).take (E a).length)
theorem FieldsR.nil {N o : Nat} : FieldsR enc P w N [] o (fun _ : Unit => []) (fun _ => True) := fun cs fuel ys _ _ _ => ⟨(), trivial, by simpa using VRL.nil _ _⟩
theorem FieldsR.cons {N o n : Nat} {f : Field} {fs : List Field} {α β : Type} {E : α → List AV} {G : α → Prop} {E' : β → List AV} {G' : β → Prop} (h : Reads enc P w N f.type n E G) (ho : f.offset = o) (hk : FieldsR enc P w N fs (o + n) E' G') :
    FieldsR enc P w N (f :: fs) o (fun p : α × β => E p.1 ++ E' p.2) (fun p => G p.1 ∧ G' p.2) := by
  intro cs fuel ys hf hx hl
  cases ys with
  | nil => simp at hl
  | cons y ys =>
    have h0 := hx 0 f rfl
    rw [ho, h.1] at h0
    obtain ⟨a, g1, v1⟩ := h.2.2 fuel _ _ hf (by simpa using h0)
    obtain ⟨b, g2, v2⟩ := hk cs fuel ys hf (fun i f' hf' => by have := hx (i + 1) f' (by simpa using hf'); simpa using this) (by simpa using hl)
    refine ⟨(a, b), ⟨g1, g2⟩, ?_⟩
    have := v1.app v2
    have hlen := h.2.1 a
    have e : (cs.drop o).take n ++ (cs.drop (o + n)).take (E' b).length = (cs.drop o).take (E a ++ E' b).length := by
      rw [List.length_append, hlen, List.take_add, List.drop_drop]
    rwa [e] at this
theorem Reads.struct {N t n : Nat} {fs : Array Field} {α : Type} {E : α → List AV} {G : α → Prop} (ht : P.underlying t = some (.struct fs)) (hc : P.cellsOf t = n) (hE : ∀ a, (E a).length = n) (h : FieldsR enc P w N fs.toList 0 E G) : Reads enc P w (N + 1) t n E G := by
  refine ⟨hc, hE, fun fuel cs x hf hx => ?_⟩
  obtain ⟨xs, k, hk, _, hlen, hxl, hfs⟩ := DataW.trod_struct ht hx
  obtain ⟨a, g, v⟩ := h cs k xs (by omega) (fun i f hf => hfs i f (by simpa using hf)) (by simpa using hxl)
  refine ⟨a, g, ?_⟩
  rw [hE, List.drop_zero, List.take_of_length_le (by omega)] at v
  exact v
theorem Reads.deep {t n : Nat} {α : Type} {E : α → List AV} {G : α → Prop} (h : ∀ N, Reads enc P w N t n E G) {v : Value} {d : DataW H} {ps : List MemPlace} (hd : DataW.Trod enc P w 0 (fun _ => true) true t v d ps) : ∃ a, G a ∧ VRL (Ghost.all w) w (E a) v.cells.toList := by
  obtain ⟨f, hf⟩ := hd
  exact (h f).2.2 f _ _ (Nat.le_refl _) hf
end
end Go.AM
namespace Go.Proofs.YthkhdedadacakaaGreatDoor
open Go.AM
set_option maxRecDepth 8000
section
variable {H : Type} {enc : TypeId × Value → H} {w : World}
abbrev i64R (n : Int) : Prop := -9223372036854775808 ≤ n ∧ n ≤ 9223372036854775807
abbrev RD (enc : TypeId × Value → H) (w : World) (N : Nat) (t : TypeId) (n : Nat) {α : Type} (E : α → List AV) (G : α → Prop) : Prop := Reads enc Tryz.prog w N t n E G
theorem rd_int (N : Nat) {t : TypeId} (ht : Tryz.prog.underlying t = some (.int .i64)) (hc : Tryz.prog.cellsOf t = 1) : RD enc w N t 1 (fun n : Int => [I n]) i64R := Reads.int ht hc
theorem rd_str (N : Nat) : RD enc w N 9 1 (fun s : Str => [.str s]) (fun _ => True) := Reads.str Tryz.underlying9 (by kernel_rfl)
theorem rd_bool (N : Nat) : RD enc w N 4 1 (fun b : Bool => [.bool b]) (fun _ => True) := Reads.bool Tryz.underlying4 (by kernel_rfl)
theorem rd_kind (N : Nat) : RD enc w N 73 1 (fun n : Int => [I n]) i64R := rd_int N Tryz.underlying73 (by kernel_rfl)
theorem rd_num (N : Nat) : RD enc w N 3 1 (fun n : Int => [I n]) i64R := rd_int N Tryz.underlying3 (by kernel_rfl)
def cVal (v : Val) : List AV := [I v.kind, I v.n, .str v.s]
theorem rd_val (N : Nat) : RD enc w (N + 1) 75 3 cVal rngV := by
  have h := Reads.struct (enc := enc) (w := w) (N := N) (n := 3) Tryz.underlying75 (by kernel_rfl) (fun _ => rfl) (.cons (rd_kind N) rfl (.cons (rd_num N) rfl (.cons (rd_str N) rfl .nil)))
  exact h.map (fun p => ⟨p.1, p.2.1, p.2.2.1⟩) (fun _ => rfl) (fun _ => rfl) (fun p h => h.2.1)
theorem rd_vals (N : Nat) : RD enc w (N + 2) 90 1 (fun l : List Val => [eVals l]) (fun l => ∀ v ∈ l, rngV v) :=
  Reads.slice EV eVal Tryz.underlying90 (by kernel_rfl) (rd_val N) (by decide) rfl (fun _ => rfl) (fun _ _ _ => rfl)
def cCol (c : Col) : List AV := [.str c.name, I c.kind, eVals c.order]
theorem rd_col (N : Nat) : RD enc w (N + 3) 92 3 cCol (fun c => ∀ v ∈ c.order, rngV v) := by
  have h := Reads.struct (enc := enc) (w := w) (N := N + 2) (n := 3) Tryz.underlying92 (by kernel_rfl) (fun _ => rfl) (.cons (rd_str _) rfl (.cons (rd_kind _) rfl (.cons (rd_vals N) rfl .nil)))
  exact h.map (fun p => ⟨p.1, p.2.1, p.2.2.1⟩) (fun _ => rfl) (fun _ => rfl) (fun p h => h.2.2.1)
theorem rd_cols (N : Nat) : RD enc w (N + 4) 22 1 (fun l : List Col => [eCols l]) rngC :=
  Reads.slice EC eCol Tryz.underlying22 (by kernel_rfl) (rd_col N) (by decide) rfl (fun _ => rfl) (fun _ _ _ => rfl)
theorem rd_strs (N : Nat) : RD enc w (N + 1) 47 1 (fun l : List Str => [eStrs l]) (fun _ => True) := by
  refine (Reads.slice E1 eStr Tryz.underlying47 (by kernel_rfl) (rd_str N) (by decide) rfl (fun _ => rfl) ?_).weak (fun _ _ => trivial)
  intro s c hc
  have h0 : c = 0 := by omega
  subst h0; rfl
def cRule (r : Rule) : List AV := [eStrs r.cells, eStrs r.outs]
theorem rd_rule (N : Nat) : RD enc w (N + 2) 49 2 cRule (fun _ => True) := by
  have h := Reads.struct (enc := enc) (w := w) (N := N + 1) (n := 2) Tryz.underlying49 (by kernel_rfl) (fun _ => rfl) (.cons (rd_strs N) rfl (.cons (rd_strs N) rfl .nil))
  exact h.map (fun p => ⟨p.1, p.2.1⟩) (fun _ => rfl) (fun _ => rfl) (fun p h => trivial)
theorem rd_rules (N : Nat) : RD enc w (N + 3) 25 1 (fun l : List Rule => [eRules l]) (fun _ => True) :=
  (Reads.slice ER eRule Tryz.underlying25 (by kernel_rfl) (rd_rule N) (by decide) rfl (fun _ => rfl) (fun _ _ _ => rfl)).weak (fun _ _ => trivial)
theorem rd_table (N : Nat) : RD enc w (N + 5) 27 6 cTable rngT := by
  have h := Reads.struct (enc := enc) (w := w) (N := N + 4) (n := 6) Tryz.underlying27 (by kernel_rfl) (fun _ => rfl) (.cons (rd_str _) rfl (.cons (rd_cols N) rfl (.cons (rd_cols N) rfl (.cons (rd_int _ Tryz.underlying23 (by kernel_rfl)) rfl (.cons (rd_int _ Tryz.underlying24 (by kernel_rfl)) rfl (.cons (rd_rules (N + 1)) rfl .nil))))))
  exact h.map (fun p => ⟨p.1, p.2.1, p.2.2.1, p.2.2.2.1, p.2.2.2.2.1, p.2.2.2.2.2.1⟩) (fun _ => rfl) (fun _ => rfl) (fun p h => ⟨h.2.1, h.2.2.1⟩)
theorem table_of {v : Value} {d : DataW H} {ps : List MemPlace} {base : Nat} (hval : Value.okWide Tryz.prog w .any base 27 v) (hd : DataW.Trod enc Tryz.prog w 0 (fun _ => true) true 27 v d ps) : ∃ t : Table, rngT t ∧ VR (Ghost.all w) w (eTable t) v := by
  obtain ⟨cs, rfl, _⟩ := Go.WideShapes.okWide_struct Tryz.underlying27 hval
  obtain ⟨t, h1, h2⟩ := Reads.deep (fun N => by
    have := rd_table (enc := enc) (w := w) N
    exact ⟨this.1, this.2.1, fun f cs x hf hx => this.2.2 f cs x (by omega) hx⟩) hd
  exact ⟨t, h1, VRL.agg h2 rfl⟩
end
end Go.Proofs.YthkhdedadacakaaGreatDoor
namespace Go.Proofs.YthkhdedadacakaaGreatDoor
open Go.AM Go.ChangeShapes Go.WideShapes Go.ChangeAt Go.RowKit
theorem own : ownKnob Tryz.prog.godebug = none := by kernel_rfl
theorem kids : Kids Tryz.prog (· < Tryz.prog.types.size) := kids_rows (by kernel_rfl) (by kernel_rfl)
theorem full : ∀ t e, t < Tryz.prog.types.size → Tryz.prog.underlying t = some (.slice e) → 0 < Tryz.prog.cellsOf e := slices_full_of Tryz.prog (by kernel_rfl)
def laidL : List (String × DataW Unit) := Rows.dtableMakesRow.laid
theorem pow_of_laid {W : World} (h : laidMetH Tryz.prog laidL W) : GlobR (Ghost.all W) W := by
  have h : laidMet Tryz.prog laidL W := h
  obtain ⟨ps, ⟨_, _, _, _, _, q, _, _, _, _, ⟨_, _, _, _, _, q2, _, _, _, _, ⟨g, t, cs, fuel, p, q3, hg, ht, hv, hd, _, _⟩, _⟩, _⟩, _⟩ := h
  have e : Rows.laid_internal_strconv_uint64pow10 = Lib.tabData (H := Unit) .u64 Lib.pow10Tab := by kernel_rfl
  rw [e] at hd
  have hg1 : g = 1 := Option.some.inj (hg.symm.trans globNamed)
  subst hg1
  have hgt : (Tryz.prog.globals[1]?).map (·.type) = some t := ht
  have ht2 : (Tryz.prog.globals[1]?).map (·.type) = some 262 := by kernel_rfl
  have e3 : t = 262 := Option.some.inj (hgt.symm.trans ht2)
  subst e3
  have hcs := Lib.cells_of_tab Tryz.underlying262 Tryz.underlying254 (by kernel_rfl) (by kernel_rfl) hd
  have hok : GlobOk W := by
    show W.var? Tryz.prog "internal/strconv.uint64pow10" = some (Lib.pow10Tab.map fun z => Value.int .u64 z).toArray
    rw [hv, ← hcs]
  refine ⟨fun b hb => ?_, hok⟩
  simp only [Globs, List.mem_cons, List.not_mem_nil, or_false] at hb
  subst hb
  have hc := Lib.TabIs.cell hok hg 0 (by decide)
  show 1 < W.heap.size
  simp only [World.cell?] at hc
  split at hc
  · rename_i x hx; exact (Array.getElem?_eq_some_iff.1 hx).1
  · cases hc
def litOf : DataW Unit → Value
  | .lit (.int k n) => .int k n
  | _ => Go.undef
def litsOf : DataW Unit → Array Value
  | .agg l => (l.map litOf).toArray
  | _ => #[]
def laidObj (d : DataW Unit) : Obj → Obj
  | .cells _ t fz => .cells (litsOf d) t fz
  | o => o
noncomputable def laidWorld (os : Os) : World :=
  { World.holding Tryz.prog os ⟨#[], #[], []⟩ with heap := (((World.holding Tryz.prog os ⟨#[], #[], []⟩).heap.modify 2 (laidObj Rows.laid_math_bits_deBruijn32tab)).modify 3 (laidObj Rows.laid_math_bits_deBruijn64tab)).modify 1 (laidObj Rows.laid_internal_strconv_uint64pow10) }
theorem laid_met (os : Os) (args : Array Value) : laidMetH Tryz.prog laidL ((laidWorld os).forCall (fun _ _ => 0) ⟨#[], args, []⟩).memory :=
  (laidMet_of_run' 8 (by kernel_rfl) (by kernel_rfl) : laidMet Tryz.prog laidL ((laidWorld os).forCall (fun _ _ => 0) ⟨#[], args, []⟩).memory)
def vTable : Value := .agg #[.string ByteArray.empty, .slice none 0 0, .slice none 0 0, .int .i64 0, .int .i64 0, .slice none 0 0]
set_option maxRecDepth 100000 in
theorem stepL {H : Type} {enc : TypeId × Value → H} {os : Os} {f : FuncId} {fn : Func} {s : ChangeSpec} (args0 : Array Value)
    (started : os.Started) (noInit : Tryz.checked.prog.inits.idxOf? f = none) (hfn : Tryz.checked.prog.funcs[f]? = some fn)
    (hv : ((laidWorld os).forCall (fun _ _ => 0) ⟨#[], args0, []⟩).variablesB Tryz.checked.prog = true)
    (hr : (((laidWorld os).forCall (fun _ _ => 0) ⟨#[], args0, []⟩).heap.toList.drop Tryz.checked.prog.globals.size).take ((begin Tryz.checked.prog (fun _ _ => 0) default).world.heap.size - Tryz.checked.prog.globals.size) =
      (begin Tryz.checked.prog (fun _ _ => 0) default).world.heap.toList.drop Tryz.checked.prog.globals.size)
    (hok : Input.okWideB Tryz.checked.prog ((laidWorld os).forCall (fun _ _ => 0) ⟨#[], args0, []⟩) f ⟨#[], args0, []⟩ = true)
    (hpre : s.preB enc Tryz.checked.prog fn [] false ((laidWorld os).forCall (fun _ _ => 0) ⟨#[], args0, []⟩).memory args0 8 = true)
    (hsz : s.sizedB enc Tryz.checked.prog fn false ((laidWorld os).forCall (fun _ _ => 0) ⟨#[], args0, []⟩).memory args0 8 = true)
    (contract : ∀ (W : World) (base : Nat) (args : Array Value) (ds gs : List (DataW H)) (before : List MemPlace),
      (∀ (j : Nat) t v, fn.params[j]? = some t → args[j]? = some v → Value.okWide Tryz.prog W .any base t v) →
      DataW.Whole enc Tryz.prog fn.params.toList s.vars false W args.toList ds gs before → GlobR (Ghost.all W) W →
      Calls Tryz.prog f args W fun e W' => ∃ v, e = .returned v ∧ s.post enc Tryz.prog fn false true false false W args v W') :
    ReturnsInHanded {} Tryz.checked os f .any (fun w args => (s.pre enc Tryz.checked.prog fn [] false w args ∧ laidMetH Tryz.prog laidL w) ∧ sizedMet enc Tryz.checked.prog fn (OpenSpec.ofChange s) false w args) (s.post enc Tryz.checked.prog fn false true false false) := by
  refine returnsInHanded_of_change_and (C := Tryz.checked) (X := fun w _ => laidMetH Tryz.prog laidL w) (fun _ _ _ hh h => h.of_heap hh) own started noInit hfn
    (ChangeSpec.witness_at (enc := enc) (C := Tryz.checked) (os := os) (X := fun w _ => laidMetH Tryz.prog laidL w) false (laidWorld os) args0 8 rfl hv hr hok hpre hsz (laid_met os _)) ?_
  intro W base args ds gs before h1 h2 _ _ hL _
  exact contract W base args ds gs before h1 h2 (pow_of_laid hL)
theorem args1 {a : AV} {x : Value} {g : Ghost} {w : World} (h1 : VR g w a x) : ∀ i, i < [a].length → VR g w ([a].getD i .undef) (#[x].getD i Go.undef) := by
  intro i hi
  match i, hi with
  | 0, _ => exact h1
theorem args2 {a b : AV} {x y : Value} {g : Ghost} {w : World} (h1 : VR g w a x) (h2 : VR g w b y) : ∀ i, i < [a, b].length → VR g w ([a, b].getD i .undef) (#[x, y].getD i Go.undef) := by
  intro i hi
  match i, hi with
  | 0, _ => exact h1
  | 1, _ => exact h2
end Go.Proofs.YthkhdedadacakaaGreatDoor
namespace Go.AM
variable {P : Program}
theorem View.live {σ σ' : Store} (hs : ∀ (l : Nat) o, σ[l]? = some o → o.live = true → σ'[l]? = some o) {a b : AV} (h : View σ a b) : View σ' a b := by
  induction h with
  | refl a h => exact .refl a h
  | nils el => exact .nils el
  | weak f el xs h => exact .weak f el xs h
  | lst f el xs ys hl _ ih => exact .lst f el xs ys hl ih
  | own T el l lo n xs ys hl hy hn _ ih => exact .own T el l lo n xs ys (hs _ _ hl rfl) hy hn ih
  | agg cs ds hl _ ih => exact .agg cs ds hl ih
  | tup cs ds hl _ ih => exact .tup cs ds hl ih
  | cell l v hl h hp => exact .cell l v (hs _ _ hl rfl) h hp
  | cells l n cs hl hn hp => exact .cells l n cs (hs _ _ hl rfl) hn hp
  | fn f az bs cs ds hl _ hl' _ ih ih' => exact .fn f az bs cs ds hl ih hl' ih'
def solo (q : Nat) (o : AObj) : Store := List.replicate q .dead ++ [o]
theorem solo_at (q : Nat) (o : AObj) : (solo q o)[q]? = some o := by simp [solo]
theorem solo_live {q : Nat} {o : AObj} (l : Nat) (o' : AObj) (h : (solo q o)[l]? = some o') (hl : o'.live = true) : l = q ∧ o' = o := by
  unfold solo at h
  by_cases h1 : l < q
  · rw [List.getElem?_append_left (by simpa using h1)] at h
    simp [List.getElem?_replicate, h1] at h
    subst h; cases hl
  · rw [List.getElem?_append_right (by simpa using Nat.le_of_not_lt h1)] at h
    simp only [List.length_replicate] at h
    have : l - q = 0 := by
      apply Nat.eq_zero_of_not_pos
      intro hp
      rw [List.getElem?_eq_none (by simp; omega)] at h; cases h
    rw [this] at h
    simp at h
    exact ⟨by omega, h.symm⟩
theorem CallF.freeze {f : FuncId} {az bz : List AV} {r : AV} {σ : Store} {q : Nat} {o : AObj} (h : CallF P f bz r) (hq : σ[q]? = some o) (ho : o.live = true) (hv : ViewL (solo q o) az bz) (hr : r.pur = true) :
    CallA P f az σ fun out s => out = .ret r ∧ s = σ.set q .dead := by
  refine ⟨(h []).1, fun g w vs hR hlen hvs => ?_⟩
  have hqn : q < g.n := by rw [← hR.len]; exact (List.getElem?_eq_some_iff.1 hq).1
  have hqlive : Live σ q := ⟨o, hq, ho⟩
  let I : Nat → Prop := fun b => g.imm b ∨ g.base q = some b
  have hlt : ∀ b, I b → b < w.heap.size := fun b hb => by
    rcases hb with hb | hb
    · exact hR.lt b hb
    · exact hR.base_lt hqlive hb
  let σq : Store := σ.zipIdx.map fun x => if x.2 = q then x.1 else .dead
  have hσq : ∀ (l : Nat) o', σq[l]? = some o' → o'.live = true → l = q ∧ σ[l]? = some o' := fun l o' hl hlv => by
    simp only [σq, List.getElem?_map, List.getElem?_zipIdx, Option.map_map] at hl
    obtain ⟨x, hx, hx2⟩ := Option.map_eq_some_iff.1 hl
    simp at hx2
    split at hx2
    · rename_i e; subst hx2; exact ⟨e, hx⟩
    · subst hx2; cases hlv
  have hσlen : σq.length = σ.length := by simp [σq]
  have hσqq : σq[q]? = some o := by
    simp only [σq, List.getElem?_map, List.getElem?_zipIdx, Option.map_map]
    rw [hq]; simp
  have hRq : Rel g w σq := by
    refine ⟨by rw [hσlen]; exact hR.len, hR.lt, fun l o' ho' => ?_, fun l l' b hl hl' => ?_, fun l b hl => ?_, hR.glob⟩
    · by_cases hlv : o'.live = true
      · exact hR.ok l o' (hσq l o' ho' hlv).2
      · cases o' <;> simp [AObj.live] at hlv
        trivial
    · obtain ⟨o1, h1, h2⟩ := hl
      obtain ⟨o2, h3, h4⟩ := hl'
      exact hR.inj l l' b ⟨o1, (hσq l o1 h1 h2).2, h2⟩ ⟨o2, (hσq l' o2 h3 h4).2, h4⟩
    · obtain ⟨o1, h1, h2⟩ := hl
      exact hR.dis l b ⟨o1, (hσq l o1 h1 h2).2, h2⟩
  have hview : ∀ {x y : AV}, View (solo q o) x y → View σq x y := fun hxy => hxy.live (fun l o' hl hlv => by
    obtain ⟨rfl, rfl⟩ := solo_live l o' hl hlv
    exact hσqq)
  refine ((h []).2 (Ghost.bare I) w vs (Rel.bare hlt ⟨fun b hb => .inl (hR.glob.1 b hb), hR.glob.2⟩) (hv.1 ▸ hlen) (fun i hi => ?_)).mono ?_
  · refine (hview (hv.2 i (hv.1 ▸ hi))).vr (g' := Ghost.bare I) hRq (fun b hb => .inl hb) (fun b hb => ?_) (hvs i (hv.1 ▸ hi))
    obtain ⟨l, ⟨o1, h1, h2⟩, hb⟩ := hb
    obtain ⟨rfl, _⟩ := hσq l o1 h1 h2
    exact .inr hb
  rintro e w' ⟨out, g', σ', hR', hE, hO, rfl, rfl⟩
  have hfr : ∀ b, b < w.heap.size → w'.heap[b]? = w.heap[b]? := fun b hb => hE.frame b hb not_tracked_nil
  let g2 : Ghost := { g with imm := fun b => I b ∨ (w.heap.size ≤ b ∧ b < w'.heap.size) }
  have hm : Mono g w g2 w' := ⟨fun b hb => ⟨.inl (.inl hb), hfr b (hR.lt b hb)⟩, Nat.le_refl _, fun _ _ => ⟨Nat.le_refl _, fun _ => ⟨rfl, rfl⟩⟩⟩
  have hset : ∀ (l : Nat) o', (σ.set q .dead)[l]? = some o' → o'.live = true → l ≠ q ∧ σ[l]? = some o' := fun l o' hl hlv => by
    by_cases e : l = q
    · subst e
      rw [List.getElem?_set_self (List.getElem?_eq_some_iff.1 hq).1] at hl
      cases hl; cases hlv
    · rw [List.getElem?_set_ne (Ne.symm e)] at hl
      exact ⟨e, hl⟩
  have hR2 : Rel g2 w' (σ.set q .dead) := by
    refine ⟨by simp [g2, hR.len], fun b hb => ?_, fun l o' ho' => ?_, fun l l' b hl hl' => ?_, fun l b hl hb hi => ?_, hR.glob.mono hm.imm⟩
    · rcases hb with hb | hb
      · exact Nat.lt_of_lt_of_le (hlt b hb) hE.size
      · exact hb.2
    · by_cases hlv : o'.live = true
      · obtain ⟨_, h2⟩ := hset l o' ho' hlv
        have hl : l < g.n := by rw [← hR.len]; exact (List.getElem?_eq_some_iff.1 h2).1
        exact (hR.ok l o' h2).step hm hl rfl (fun b hb => hfr b (hR.base_lt ⟨o', h2, hlv⟩ hb))
      · cases o' <;> simp [AObj.live] at hlv
        trivial
    · obtain ⟨o1, h1, h2⟩ := hl
      obtain ⟨o2, h3, h4⟩ := hl'
      exact hR.inj l l' b ⟨o1, (hset l o1 h1 h2).2, h2⟩ ⟨o2, (hset l' o2 h3 h4).2, h4⟩
    · obtain ⟨o1, h1, h2⟩ := hl
      obtain ⟨hne, h3⟩ := hset l o1 h1 h2
      rcases hi with (hi | hi) | hi
      · exact hR.dis l b ⟨o1, h3, h2⟩ hb hi
      · exact hne (hR.inj l q b ⟨o1, h3, h2⟩ hqlive hb hi)
      · have := hR.base_lt ⟨o1, h3, h2⟩ hb; omega
  refine ⟨.ret r, g2, _, hR2, ⟨hm, hE.size, hE.os, hE.tape, hE.output, fun b hb _ => hfr b hb, fun b hb hi => ?_, fun b hb ht => ?_⟩, ?_, rfl, rfl⟩
  · rcases hi with (hi | hi) | hi
    · exact .inl hi
    · exact .inr ⟨q, hqlive, hi⟩
    · omega
  · obtain ⟨l, ⟨o1, h1, h2⟩, hb2⟩ := ht
    exact ⟨l, ⟨o1, (hset l o1 h1 h2).2, h2⟩, hb2⟩
  · cases e with
    | returned v =>
      refine VR.pur (g := g') (g' := g2) (fun b hb => ⟨?_, rfl⟩) hO hr
      by_cases hbl : b < w.heap.size
      · rcases hE.immold b hbl hb with h3 | h3
        · exact .inl h3
        · exact absurd h3 not_tracked_nil
      · exact .inr ⟨by omega, hR'.lt b hb⟩
    | panicked c => exact hO.elim
    | outgrown => exact hO.elim
end Go.AM
