/- Part of a proof: see Root. -/
import Derived.Test.YtnfendddolhcoaaGreatDoorW16
import Derived.WalkKit
import Derived.ProofKit
import Derived.OpenShut
import Derived.ReadAgain
import Derived.Deep.SlicePairs
import Derived.Test.YtnfendddolhcoaaGreatDoorRows
import Derived.SevenTiedAt
import Derived.LaidLaws
import Derived.LaidHandle
import Derived.Lib.LaidTab
import Derived.Shelf.Strings.OnBuilder
import Derived.Shelf.Strings.Repeat
import Derived.Shelf.Small.Strs
import Derived.Shelf.Small.Wraps
import Derived.Shelf.LaysM
import Derived.Shelf.Strconv.Itoa3
import Derived.Test.YtnfendddolhcoaaGreatDoorProg
set_option linter.unnecessarySimpa false
set_option linter.unusedSectionVars false
set_option linter.unusedSimpArgs false
set_option linter.unusedVariables false
namespace Go.Proofs.YtnfendddolhcoaaGreatDoor
open Go.AM
abbrev Str := List UInt8
structure Val where
  kind : Int
  n : Int
  s : Str
deriving DecidableEq, Inhabited
structure Tok where
  kind : Int
  s : Str
  n : Int
  pos : Int
deriving DecidableEq, Inhabited
inductive Expr where
  | mk (op : Int) (v : Val) (s : Str) (l : List Expr)
instance : Inhabited Expr := ⟨.mk 0 ⟨0, 0, []⟩ [] []⟩
def Expr.op : Expr → Int | .mk op _ _ _ => op
def Expr.v : Expr → Val | .mk _ v _ _ => v
def Expr.s : Expr → Str | .mk _ _ s _ => s
def Expr.l : Expr → List Expr | .mk _ _ _ l => l
structure Test where
  kind : Int
  a : Expr
  b : Expr
  lo : Bool
  hi : Bool
deriving Inhabited
structure Cell where
  any : Bool
  neg : Bool
  tests : List Test
deriving Inhabited
structure Col where
  name : Str
  kind : Int
  order : List Val
deriving Inhabited
structure Rule where
  cells : List Str
  outs : List Str
deriving Inhabited
structure Table where
  name : Str
  ins : List Col
  outs : List Col
  policy : Int
  agg : Int
  rules : List Rule
deriving Inhabited
structure Line where
  cells : List Cell
  outs : List Expr
deriving Inhabited
structure Ready where
  table : Table
  lines : List Line
deriving Inhabited
abbrev I (n : Int) : AV := .int .i64 n
abbrev E1 : El := ⟨false, 1⟩
abbrev EV : El := ⟨true, 3⟩
abbrev EC : El := ⟨true, 3⟩
abbrev ER : El := ⟨true, 2⟩
def eVal (v : Val) : AV := .agg [I v.kind, I v.n, .str v.s]
def eTok (t : Tok) : AV := .agg [I t.kind, .str t.s, I t.n, I t.pos]
def eStr (s : Str) : AV := .str s
def eVals (l : List Val) : AV := .lst false EV (l.map eVal)
def eStrs (l : List Str) : AV := .lst false E1 (l.map eStr)
def eCol (c : Col) : AV := .agg [.str c.name, I c.kind, eVals c.order]
def eCols (l : List Col) : AV := .lst false EC (l.map eCol)
def eRule (r : Rule) : AV := .agg [eStrs r.cells, eStrs r.outs]
def eRules (l : List Rule) : AV := .lst false ER (l.map eRule)
def cTable (t : Table) : List AV := [.str t.name, eCols t.ins, eCols t.outs, I t.policy, I t.agg, eRules t.rules]
def eTable (t : Table) : AV := .agg (cTable t)
attribute [go_sem] eVal eTok eCol eRule cTable eTable eStr eVals eStrs eCols eRules
theorem pur_eVal (v : Val) : (eVal v).pur = true := rfl
theorem pur_eTok (t : Tok) : (eTok t).pur = true := rfl
theorem pur_eVals (l : List Val) : (eVals l).pur = true := by simp only [eVals, AV.pur]; exact purL_map _ _ pur_eVal
theorem pur_eStrs (l : List Str) : (eStrs l).pur = true := by simp only [eStrs, AV.pur]; exact purL_map _ _ (fun _ => rfl)
theorem pur_eCol (c : Col) : (eCol c).pur = true := by simp [eCol, AV.pur, AV.purL, pur_eVals]
theorem pur_eCols (l : List Col) : (eCols l).pur = true := by simp only [eCols, AV.pur]; exact purL_map _ _ pur_eCol
theorem pur_eRule (r : Rule) : (eRule r).pur = true := by simp [eRule, AV.pur, AV.purL, pur_eStrs]
theorem pur_eRules (l : List Rule) : (eRules l).pur = true := by simp only [eRules, AV.pur]; exact purL_map _ _ pur_eRule
theorem pur_eTable (t : Table) : (eTable t).pur = true := by simp [eTable, cTable, AV.pur, AV.purL, pur_eCols, pur_eRules]
theorem purL_v (l : List Val) : AV.purL (l.map eVal) = true := purL_map _ _ pur_eVal
theorem purL_s (l : List Str) : AV.purL (l.map eStr) = true := purL_map _ _ (fun _ => rfl)
theorem purL_col (l : List Col) : AV.purL (l.map eCol) = true := purL_map _ _ pur_eCol
theorem purL_rule (l : List Rule) : AV.purL (l.map eRule) = true := purL_map _ _ pur_eRule
attribute [simp] AV.pur AV.purL pur_eVal pur_eTok pur_eVals pur_eStrs pur_eCol pur_eCols pur_eRule pur_eRules pur_eTable purL_v purL_s purL_col purL_rule
theorem getD_mem {α : Type} [Inhabited α] {l : List α} {i : Nat} (h : i < l.length) : l.getD i default ∈ l := by
  rw [List.getD_eq_getElem?_getD, List.getElem?_eq_getElem h]; exact List.getElem_mem h
end Go.Proofs.YtnfendddolhcoaaGreatDoor
namespace Go.Proofs.YtnfendddolhcoaaGreatDoor
open Go.AM
set_option maxRecDepth 4000
theorem before_succ {q : Nat → Prop} {i : Nat} (h : ∀ k, k < i → q k) (hi : q i) : ∀ k, k < i + 1 → q k := fun k hk => by
  by_cases h2 : k < i
  · exact h k h2
  · have : k = i := by omega
    subst this; exact hi
theorem allN {α : Type} [Inhabited α] {p : α → Bool} {l : List α} (h : ∀ k, k < l.length → p (l.getD k default) = true) : l.all p = true := by
  rw [List.all_eq_true]
  intro x hx
  obtain ⟨i, hi, rfl⟩ := List.getElem_of_mem hx
  have := h i hi
  rwa [List.getD_eq_getElem?_getD, List.getElem?_eq_getElem hi, Option.getD_some] at this
theorem allF {α : Type} [Inhabited α] {p : α → Bool} {l : List α} {i : Nat} (hi : i < l.length) (h : p (l.getD i default) = false) : l.all p = false := by
  cases hq : l.all p with
  | false => rfl
  | true => rw [List.all_eq_true] at hq; rw [hq _ (getD_mem hi)] at h; cases h
def lenB (n : Nat) (s : Str) : Bool := decide (s.length ≤ n)
def txS (l : List Str) : Bool := decide (l.length ≤ 10) && l.all (lenB 300)
theorem law18_texts (l : List Str) : CallF Tryz.prog n_law18_texts [eStrs l] (.bool (txS l)) := by
  obtain ⟨E, hE⟩ : ∃ E, txS l = E := ⟨_, rfl⟩
  rw [hE]
  unfold txS at hE
  simp only [eStrs]
  refine CallF.of_nil (of_law18_texts (by simp) ?_) (by simp)
  unfold b_law18_texts WpR
  intro Q hQr hQn hQp
  repeat' first | refine go_ ?_ | refine br_ (fun hw => ?_) (fun hw => ?_) <;> try omega | fail
  · refine leafE ?_ rfl; rw [← hE, decide_eq_false (by omega), Bool.false_and]
  have h10 : l.length ≤ 10 := by omega
  rw [decide_eq_true h10, Bool.true_and] at hE
  with_reducible refine loop_i [2, 3, 7, 8, 9, 10, 11, 12, 13, 14, 15, 16, 17, 18] (fun i : Nat => [(3, I i)]) (fun _ => []) (fun i => i ≤ l.length ∧ ∀ k, k < i → lenB 300 (l.getD k default) = true) (fun i => l.length - i) (0) ?_ ?_ ?_ ?_
  · simp
  · rfl
  · exact at_
  rintro i r ⟨h1, h2⟩
  by_cases hi : i < l.length
  · have hne := fun h => allF (p := lenB 300) hi h
    have hbs := fun he => before_succ (q := fun k => lenB 300 (l.getD k default) = true) h2 (i := i) he
    have hS : lenB 300 (l.getD i default) = decide ((l.getD i default).length ≤ 300) := rfl
    rw [hS] at hne hbs
    repeat' first | refine go_ ?_ | refine br_ (fun hw => ?_) (fun hw => ?_) <;> try omega | fail
    all_goals first
      | exact ab_
      | (refine leafE ?_ rfl; rw [← hE, hne (decide_eq_false (by omega))])
      | (refine ⟨i + 1, ?_, ?_, by first | rfl | (simp [go_sem]; done), ou_, at_⟩ <;> (try dsimp only)
         · exact ⟨by omega, hbs (decide_eq_true (by omega))⟩
         · omega)
  · repeat' first | refine go_ ?_ | refine br_ (fun hw => ?_) (fun hw => ?_) <;> try omega | fail
    refine leafE ?_ rfl; rw [← hE, allN (fun k hk => h2 k (by omega))]
def nameB (c : Col) : Bool := decide (c.name.length ≤ 300)
def fewS (l : List Col) : Bool := decide (l.length ≤ 12) && l.all nameB
theorem law15_Few (l : List Col) : CallF Tryz.prog n_law15_Cols_Few [eCols l] (.bool (fewS l)) := by
  obtain ⟨E, hE⟩ : ∃ E, fewS l = E := ⟨_, rfl⟩
  rw [hE]
  unfold fewS at hE
  simp only [eCols]
  refine CallF.of_nil (of_law15_Cols_Few (by simp) ?_) (by simp)
  unfold b_law15_Cols_Few WpR
  intro Q hQr hQn hQp
  repeat' first | refine go_ ?_ | refine br_ (fun hw => ?_) (fun hw => ?_) <;> try omega | fail
  · refine leafE ?_ rfl; rw [← hE, decide_eq_false (by omega), Bool.false_and]
  have h10 : l.length ≤ 12 := by omega
  rw [decide_eq_true h10, Bool.true_and] at hE
  with_reducible refine loop_i [2, 3, 7, 8, 9, 10, 11, 12, 13, 14, 15, 16, 17, 18, 19] (fun i : Nat => [(3, I i)]) (fun _ => []) (fun i => i ≤ l.length ∧ ∀ k, k < i → nameB (l.getD k default) = true) (fun i => l.length - i) (0) ?_ ?_ ?_ ?_
  · simp
  · rfl
  · exact at_
  rintro i r ⟨h1, h2⟩
  by_cases hi : i < l.length
  · have hne := fun h => allF (p := nameB) hi h
    have hbs := fun he => before_succ (q := fun k => nameB (l.getD k default) = true) h2 (i := i) he
    have hS : nameB (l.getD i default) = decide ((l.getD i default).name.length ≤ 300) := rfl
    rw [hS] at hne hbs
    repeat' first | refine go_ ?_ | refine br_ (fun hw => ?_) (fun hw => ?_) <;> try omega | fail
    all_goals first
      | exact ab_
      | (refine leafE ?_ rfl; rw [← hE, hne (decide_eq_false (by omega))])
      | (refine ⟨i + 1, ?_, ?_, by first | rfl | (simp [go_sem]; done), ou_, at_⟩ <;> (try dsimp only)
         · exact ⟨by omega, hbs (decide_eq_true (by omega))⟩
         · omega)
  · repeat' first | refine go_ ?_ | refine br_ (fun hw => ?_) (fun hw => ?_) <;> try omega | fail
    refine leafE ?_ rfl; rw [← hE, allN (fun k hk => h2 k (by omega))]
def valB (v : Val) : Bool := decide (v.s.length ≤ 300)
def colB (c : Col) : Bool := decide (c.order.length ≤ 12) && c.order.all valB
def ordS (l : List Col) : Bool := fewS l && l.all colB
theorem law18_order (l : List Col) : CallF Tryz.prog n_law18_order [eCols l] (.bool (ordS l)) := by
  have cf := law15_Few l
  obtain ⟨E, hE⟩ : ∃ E, ordS l = E := ⟨_, rfl⟩
  rw [hE]
  unfold ordS at hE
  have h12 : fewS l = true → l.length ≤ 12 := fun h => by simp only [fewS, Bool.and_eq_true, decide_eq_true_eq] at h; exact h.1
  simp only [eCols] at cf ⊢
  generalize fewS l = fe at *
  refine CallF.of_nil (of_law18_order (by simp) ?_) (by simp)
  unfold b_law18_order WpR
  intro Q hQr hQn hQp
  cases fe with
  | false =>
    repeat' first | refine go_ ?_ | refine cf_ cf ?_ | refine br_ (fun hw => ?_) (fun hw => ?_) <;> try omega | fail
    all_goals first
      | exact ab_
      | (refine leafE ?_ rfl; rw [← hE, Bool.false_and])
  | true =>
    rw [Bool.true_and] at hE
    have h12 := h12 rfl
    repeat' first | refine go_ ?_ | refine cf_ cf ?_ | refine br_ (fun hw => ?_) (fun hw => ?_) <;> try omega | fail
    all_goals first | exact ab_ | skip
    with_reducible refine loop_i [2, 3, 4, 8, 9, 10, 11, 12, 13, 14, 15, 16, 17, 18, 19, 20, 21, 22, 23, 24, 25, 26, 27, 28, 29, 30, 31, 32, 33, 34, 35, 36, 37, 38, 39, 40, 41] (fun i : Nat => [(3, I i)]) (fun _ => []) (fun i => i ≤ l.length ∧ ∀ k, k < i → colB (l.getD k default) = true) (fun i => l.length - i) (0) ?_ ?_ ?_ ?_
    · simp
    · rfl
    · exact at_
    rintro i r ⟨h1, h2⟩
    by_cases hi : i < l.length
    · have hne := fun h => allF (p := colB) hi h
      have hbs := fun he => before_succ (q := fun k => colB (l.getD k default) = true) h2 (i := i) he
      have hS : colB (l.getD i default) = (decide ((l.getD i default).order.length ≤ 12) && (l.getD i default).order.all valB) := rfl
      rw [hS] at hne hbs
      obtain ⟨c, hc⟩ : ∃ c, l.getD i default = c := ⟨_, rfl⟩
      rw [hc] at hne hbs
      clear hS
      repeat' first | simp (disch := omega) only [go_sem, hQr, hQn, hQp, wrapK_i64, wrapK_u8, wrapK_u64, Nat.reduceAdd, Nat.reduceBEq, ↓reduceIte, hc] | refine go_ ?_ | refine br_ (fun hw => ?_) (fun hw => ?_) <;> try omega | fail
      · refine leafE ?_ rfl; rw [← hE, hne (by rw [decide_eq_false (by omega), Bool.false_and])]
      have ho : c.order.length ≤ 12 := by omega
      rw [decide_eq_true ho, Bool.true_and] at hne hbs
      with_reducible refine loop_i [2, 4, 21, 22, 23, 24, 25, 26, 27, 28, 29, 30, 31, 32, 33, 34, 35, 36, 37, 38, 39, 40, 41] (fun j : Nat => [(4, I j)]) (fun _ => []) (fun j => j ≤ c.order.length ∧ ∀ k, k < j → valB (c.order.getD k default) = true) (fun j => c.order.length - j) (0) ?_ ?_ ?_ ?_
      · simp
      · rfl
      · exact at_
      rintro j r2 ⟨g1, g2⟩
      by_cases hj : j < c.order.length
      · have hne2 := fun h => allF (p := valB) hj h
        have hbs2 := fun he => before_succ (q := fun k => valB (c.order.getD k default) = true) g2 (i := j) he
        have hS : valB (c.order.getD j default) = decide ((c.order.getD j default).s.length ≤ 300) := rfl
        rw [hS] at hne2 hbs2
        repeat' first | simp (disch := omega) only [go_sem, hQr, hQn, hQp, wrapK_i64, wrapK_u8, wrapK_u64, Nat.reduceAdd, Nat.reduceBEq, ↓reduceIte, hc] | refine go_ ?_ | refine br_ (fun hw => ?_) (fun hw => ?_) <;> try omega | fail
        all_goals first
          | exact ab_
          | (refine leafE ?_ rfl; rw [← hE, hne (hne2 (decide_eq_false (by omega)))])
          | (refine ⟨j + 1, ?_, ?_, by first | rfl | (simp [go_sem]; done), ou_, at_⟩ <;> (try dsimp only)
             · exact ⟨by omega, hbs2 (decide_eq_true (by omega))⟩
             · omega)
      · repeat' first | simp (disch := omega) only [go_sem, hQr, hQn, hQp, wrapK_i64, wrapK_u8, wrapK_u64, Nat.reduceAdd, Nat.reduceBEq, ↓reduceIte, hc] | refine go_ ?_ | refine br_ (fun hw => ?_) (fun hw => ?_) <;> try omega | fail
        refine ⟨i + 1, ?_, ?_, by first | rfl | (simp [go_sem]; done), ou_, at_⟩ <;> (try dsimp only)
        · exact ⟨by omega, hbs (allN (fun k hk => g2 k (by omega)))⟩
        · omega
    · repeat' first | refine go_ ?_ | refine br_ (fun hw => ?_) (fun hw => ?_) <;> try omega | fail
      refine leafE ?_ rfl; rw [← hE, allN (fun k hk => h2 k (by omega))]
def rulB (r : Rule) : Bool := txS r.cells && txS r.outs
def smallT (t : Table) : Bool := decide (t.name.length ≤ 300) && decide (t.rules.length ≤ 26) && ordS t.ins && ordS t.outs && t.rules.all rulB
theorem law18_Small (t : Table) : CallF Tryz.prog n_law18_T_Small [eTable t] (.bool (smallT t)) := by
  have ci := law18_order t.ins
  have co := law18_order t.outs
  obtain ⟨E, hE⟩ : ∃ E, smallT t = E := ⟨_, rfl⟩
  rw [hE]
  unfold smallT at hE
  simp only [eTable, cTable, eCols, eRules] at ci co ⊢
  generalize ordS t.ins = oi at *
  generalize ordS t.outs = oo at *
  refine CallF.of_nil (of_law18_T_Small (by simp) ?_) (by simp)
  unfold b_law18_T_Small WpR
  intro Q hQr hQn hQp
  by_cases hb : (decide (t.name.length ≤ 300) && decide (t.rules.length ≤ 26) && oi && oo) = true
  case neg =>
    simp only [Bool.not_eq_true] at hb
    rw [hb, Bool.false_and] at hE
    cases oi <;> cases oo
    all_goals
      repeat' first | refine go_ ?_ | refine cf_ ci ?_ | refine cf_ co ?_ | refine br_ (fun hw => ?_) (fun hw => ?_) <;> try omega | fail
    all_goals first
      | exact ab_
      | (refine leafE ?_ rfl; rw [← hE])
      | (exfalso; simp at hb; omega)
  rw [hb, Bool.true_and] at hE
  simp only [Bool.and_eq_true, decide_eq_true_eq] at hb
  obtain ⟨⟨⟨b1, b2⟩, rfl⟩, rfl⟩ := hb
  repeat' first | refine go_ ?_ | refine cf_ ci ?_ | refine cf_ co ?_ | refine br_ (fun hw => ?_) (fun hw => ?_) <;> try omega | fail
  all_goals first | exact ab_ | skip
  with_reducible refine loop_i [2, 3, 26, 27, 28, 29, 30, 31, 32, 33, 34, 35, 36, 37, 38, 39, 40, 41, 42, 43, 44, 45, 46, 47, 48, 49, 50] (fun i : Nat => [(3, I i)]) (fun _ => [.cells [.str t.name, .lst false EC (t.ins.map eCol), .lst false EC (t.outs.map eCol), I t.policy, I t.agg, .lst false ER (t.rules.map eRule)]]) (fun i => i ≤ t.rules.length ∧ ∀ k, k < i → rulB (t.rules.getD k default) = true) (fun i => t.rules.length - i) (0) ?_ ?_ ?_ ?_
  · simp
  · rfl
  · exact at_
  rintro i r ⟨h1, h2⟩
  by_cases hi : i < t.rules.length
  · have hne := fun h => allF (p := rulB) hi h
    have hbs := fun he => before_succ (q := fun k => rulB (t.rules.getD k default) = true) h2 (i := i) he
    have hS : rulB (t.rules.getD i default) = (txS (t.rules.getD i default).cells && txS (t.rules.getD i default).outs) := rfl
    have c1 := law18_texts (t.rules.getD i default).cells
    have c2 := law18_texts (t.rules.getD i default).outs
    rw [hS] at hne hbs
    simp only [eStrs] at c1 c2
    generalize txS (t.rules.getD i default).cells = u1 at *
    generalize txS (t.rules.getD i default).outs = u2 at *
    cases u1 <;> cases u2
    all_goals
      repeat' first | refine go_ ?_ | refine cf_ c1 ?_ | refine cf_ c2 ?_ | refine br_ (fun hw => ?_) (fun hw => ?_) <;> try omega | fail
    all_goals first
      | exact ab_
      | (refine leafE ?_ rfl; rw [← hE, hne rfl])
      | (refine ⟨i + 1, ?_, ?_, by first | rfl | (simp [go_sem]; done), ou_, at_⟩ <;> (try dsimp only)
         · exact ⟨by omega, hbs rfl⟩
         · omega)
  · repeat' first | refine go_ ?_ | refine br_ (fun hw => ?_) (fun hw => ?_) <;> try omega | fail
    refine leafE ?_ rfl; rw [← hE, allN (fun k hk => h2 k (by omega))]
theorem law16_Few (l : List Val) : CallF Tryz.prog n_law16_Row_Few [eVals l] (.bool (decide (l.length ≤ 12) && l.all valB)) := by
  obtain ⟨E, hE⟩ : ∃ E, (decide (l.length ≤ 12) && l.all valB) = E := ⟨_, rfl⟩
  rw [hE]
  simp only [eVals]
  refine CallF.of_nil (of_law16_Row_Few (by simp) ?_) (by simp)
  unfold b_law16_Row_Few WpR
  intro Q hQr hQn hQp
  repeat' first | refine go_ ?_ | refine br_ (fun hw => ?_) (fun hw => ?_) <;> try omega | fail
  · exact leafE (by rw [← hE, decide_eq_false (by omega), Bool.false_and]) rfl
  have h12 : l.length ≤ 12 := by omega
  rw [decide_eq_true h12, Bool.true_and] at hE
  with_reducible refine loop_i [2, 3, 7, 8, 9, 10, 11, 12, 13, 14, 15, 16, 17, 18, 19] (fun q : Nat => [(3, I q)]) (fun _ => []) (fun q => q ≤ l.length ∧ ∀ k, k < q → valB (l.getD k default) = true) (fun q => l.length - q) (0) ?_ ?_ ?_ ?_
  · simp
  · rfl
  · exact at_
  rintro i r ⟨g1, g2⟩
  by_cases hi : i < l.length
  · have hne := fun h => allF (p := valB) hi h
    have hbs := fun he => before_succ (q := fun k => valB (l.getD k default) = true) g2 (i := i) he
    obtain ⟨v, hve⟩ : ∃ v, l.getD i default = v := ⟨_, rfl⟩
    rw [hve] at hne hbs
    have hS : valB v = decide (v.s.length ≤ 300) := rfl
    rw [hS] at hne hbs
    repeat' first | simp (disch := omega) only [go_sem, hQr, hQn, hQp, wrapK_i64, wrapK_u8, wrapK_u64, Nat.reduceAdd, Nat.reduceBEq, ↓reduceIte, hve] | refine go_ ?_ | refine br_ (fun hw => ?_) (fun hw => ?_) <;> try omega | fail
    all_goals first
      | exact ab_
      | (exact leafE (by rw [← hE, hne (decide_eq_false (by omega))]) rfl)
      | (refine ⟨i + 1, ?_, ?_, by first | rfl | (simp [go_sem]; done), ou_, at_⟩ <;> (try dsimp only)
         · exact ⟨by omega, hbs (decide_eq_true (by omega))⟩
         · omega)
  · repeat' first | refine go_ ?_ | refine br_ (fun hw => ?_) (fun hw => ?_) <;> try omega | fail
    exact leafE (by rw [← hE, allN (fun k hk => g2 k (by omega))]) rfl
end Go.Proofs.YtnfendddolhcoaaGreatDoor
namespace Go.Proofs.YtnfendddolhcoaaGreatDoor
open Go.AM
set_option maxRecDepth 4000
@[go_sem] theorem partT_ga (sz off n : Nat) (cs : List AV) (K : AV → Prop) (h : ¬(off = 0 ∧ n = sz)) : partT false ⟨true, sz⟩ (.agg cs) off true n (.mk : Tg K) = req (off + n ≤ sz) (.mk : Tg (K (.agg ((cs.drop off).take n)))) := by
  refine partT_g _ _ _ _ _ ?_
  rw [Bool.eq_false_iff]; intro hh; simp at hh; exact h hh
structure Act where
  kind : Int
  table : Table
  name : Str
  ver : Int
  row : List Val
  n : Int
  m : Int
deriving Inhabited
abbrev EA : El := ⟨true, 12⟩
def cAct (a : Act) : List AV := [I a.kind, .str a.table.name, eCols a.table.ins, eCols a.table.outs, I a.table.policy, I a.table.agg, eRules a.table.rules, .str a.name, I a.ver, eVals a.row, I a.n, I a.m]
def eAct (a : Act) : AV := .agg (cAct a)
attribute [go_sem] cAct eAct
def fewA (a : Act) : Bool := smallT a.table && decide (a.name.length ≤ 300) && (decide (a.row.length ≤ 12) && a.row.all valB)
theorem pur_eAct (a : Act) : (eAct a).pur = true := by simp [eAct, cAct, AV.pur, AV.purL]
theorem law25_Few (a : Act) : CallF Tryz.prog n_law25_Acts_Few [.lst true EA [eAct a]] (.bool (fewA a)) := by
  have c1 := law18_Small a.table
  have c2 := law16_Few a.row
  obtain ⟨E, hE⟩ : ∃ E, fewA a = E := ⟨_, rfl⟩
  rw [hE]
  unfold fewA at hE
  generalize smallT a.table = x at *
  generalize (decide (a.row.length ≤ 12) && a.row.all valB) = y at *
  simp only [eTable, cTable, eCols, eRules, eVals] at c1 c2
  refine CallF.of_nil (of_law25_Acts_Few (by simp) ?_) (by simp [AV.purL, AV.pur, pur_eAct])
  simp only [eAct, cAct, eCols, eRules, eVals]
  unfold b_law25_Acts_Few WpR
  intro Q hQr hQn hQp
  repeat' first | refine go_ ?_ | refine br_ (fun hw => ?_) (fun hw => ?_) <;> try omega | fail
  with_reducible refine loop_i [2, 3, 7, 8, 9, 10, 11, 12, 13, 14, 15, 16, 17, 18, 19, 20, 21, 22, 23, 24, 25, 26, 27, 28, 29, 30, 31, 32, 33, 34, 35, 36, 37] (fun q : Nat => [(3, I q)]) (fun _ => []) (fun q => q ≤ 1 ∧ (q = 1 → E = true)) (fun q => 1 - q) (0) ?_ ?_ ?_ ?_
  · simp
  · rfl
  · exact at_
  rintro i r ⟨g1, g2⟩
  by_cases hi : i < 1
  · obtain rfl : i = 0 := by omega
    repeat' first | refine go_ ?_ | refine cf_ c1 ?_ | refine cf_ c2 ?_ | refine br_ (fun hw => ?_) (fun hw => ?_) <;> try omega | fail
    all_goals first
      | exact ab_
      | (refine leafE ?_ rfl; rw [← hE, decide_eq_false (by omega)]; simp; done)
      | (refine leafE ?_ rfl; rw [← hE]; simp [*]; done)
      | (refine ⟨1, ?_, ?_, by first | rfl | (simp [go_sem]; done), ou_, at_⟩ <;> (try dsimp only)
         · exact ⟨by omega, fun _ => by rw [← hE, decide_eq_true (by omega)]; simp [*]⟩
         · omega)
  · repeat' first | refine go_ ?_ | refine br_ (fun hw => ?_) (fun hw => ?_) <;> try omega | fail
    exact leafE (by rw [g2 (by omega)]) rfl
end Go.Proofs.YtnfendddolhcoaaGreatDoor
namespace Go.AM
open Go.ChangeShapes Go.WideShapes
section
variable {H : Type} {enc : TypeId × Value → H} {P : Program} {w w' : World} {base : Nat} {spare : Nat → Bool} {held : Bool}
theorem DataW_TrodAll_carry : ∀ {ts : List TypeId} {vs : List Value} {ds : List (DataW H)} {ps : List MemPlace}, DataW.TrodAll enc P w base spare held ts vs ds ps → (∀ p ∈ ps, w.sameAt w' p) → DataW.TrodAll enc P w' base spare held ts vs ds ps
  | [], [], [], _, h, _ => h
  | _ :: _, _ :: _, _ :: _, _, ⟨p, q, ⟨n, hn⟩, h2, e⟩, hs => ⟨p, q, ⟨n, DataW.trod_carry n _ _ _ hn (fun x hx => hs x (by rw [e]; exact List.mem_append_left _ hx))⟩, DataW_TrodAll_carry h2 (fun x hx => hs x (by rw [e]; exact List.mem_append_right _ hx)), e⟩
theorem keptBut_of_heap {may : MemPlace → Prop} (h1 : w'.os = w.os) (h2 : w'.output = w.output) (h3 : ∀ b, b < w.heap.size → w'.heap[b]? = w.heap[b]?) : w.keptBut w' may := by
  refine ⟨h1, h2, fun i hi => ?_⟩
  rw [h3 i hi]
  split
  · rename_i a b ha hb
    rw [ha] at hb
    cases Option.some.inj hb
    exact ⟨rfl, rfl, rfl, fun _ _ => rfl⟩
  · rename_i a b ha hb
    rw [ha] at hb
    cases Option.some.inj hb
    exact .inr ⟨rfl, rfl⟩
  · rfl
theorem sameAt_of_heap (h3 : ∀ b, b < w.heap.size → w'.heap[b]? = w.heap[b]?) {p : MemPlace} (hp : p.block < w.heap.size) : w.sameAt w' p := by
  cases p with
  | cell b off => exact cell?_of_heap (h3 b hp) off none
  | map b => exact h3 b hp
def Ghost.all (w : World) : Ghost := Ghost.bare (· < w.heap.size)
theorem Said_of_CallF {f : FuncId} {fn : Func} {s : ChangeSpec} {t : TypeId} {args' : List AV} {W : World} {args : Array Value} {ds gs : List (DataW H)} {before : List MemPlace}
    (h : CallF P f args' (.bool true)) (hW : DataW.Whole enc P fn.params.toList s.vars false W args.toList ds gs before) (hG : GlobR (Ghost.all W) W)
    (K : Kids P (· < P.types.size)) (hz : ∀ t e, t < P.types.size → P.underlying t = some (.slice e) → 0 < P.cellsOf e) (hps : ∀ t ∈ fn.params.toList, t < P.types.size)
    (hvars : s.vars = []) (hrt : fn.resultTypes = #[t]) (ht : P.underlying t = some .bool) (hfn : s.fn H (ds ++ gs) = { results := [.lit (.bool true)], args := ds, vars := [] })
    (hl : args'.length = args.size) (hv : ∀ i, i < args'.length → VR (Ghost.all W) W (args'.getD i .undef) (args.getD i Go.undef)) :
    Calls P f args W fun e W' => ∃ v, e = .returned v ∧ s.post enc P fn false true false false W args v W' := by
  refine ((h []).2 (Ghost.all W) W args (Rel.bare (fun _ h => h) hG) hl hv).mono ?_
  rintro e W' ⟨out, g', σ', hR, hE, hO, rfl, rfl⟩
  have hfr : ∀ b, b < W.heap.size → W'.heap[b]? = W.heap[b]? := fun b hb => hE.frame b hb not_tracked_nil
  cases e with
  | panicked c => exact hO.elim
  | outgrown => exact hO.elim
  | returned v =>
    have hb : v = .bool true := by cases hO; rfl
    subst hb
    refine ⟨_, rfl, ds, gs, before, [], before, [], hW, ?_, ?_, ?_, keptBut_of_heap hE.os hE.output hfr, fun h => by cases h⟩
    · rw [hfn, hrt]
      exact trodAll_mk1 (RowKit.shut_bool ht true)
    · rw [hfn]
      have hlt := hW.lt
      obtain ⟨p, q, h1, h2, rfl, _, _⟩ := hW
      rw [hvars] at h2
      obtain ⟨rfl, rfl⟩ := trodVars_none h2
      rw [List.append_nil] at hlt ⊢
      refine DataW_TrodAll_carry (DataW.TrodAll.respare K hz hps h1 (fun x hx => by simpa using hlt x hx)) (fun x hx => sameAt_of_heap hfr (hlt x hx))
    · rw [hfn, hvars]
      rfl
theorem VR.string {g : Ghost} {w : World} (s : ByteArray) : VR g w (.str s.data.toList) (.string s) := VR.str s.data.toList
end
end Go.AM
namespace Go.AM
open Go.ChangeShapes Go.WideShapes
def VRL (g : Ghost) (w : World) (az : List AV) (vs : List Value) : Prop := az.length = vs.length ∧ ∀ i, i < az.length → VR g w (az.getD i .undef) (vs.getD i Go.undef)
theorem VRL.nil (g : Ghost) (w : World) : VRL g w [] [] := ⟨rfl, fun i hi => by cases hi⟩
theorem VRL.app {g : Ghost} {w : World} {a b : List AV} {x y : List Value} (h : VRL g w a x) (k : VRL g w b y) : VRL g w (a ++ b) (x ++ y) := by
  have h1 := h.1
  refine ⟨by simp [h.1, k.1], fun i hi => ?_⟩
  rw [List.length_append] at hi
  by_cases hl : i < a.length
  · have := h.2 i hl
    rw [List.getD_eq_getElem?_getD, List.getD_eq_getElem?_getD] at this ⊢
    rw [List.getElem?_append_left hl, List.getElem?_append_left (by omega)]
    exact this
  · have := k.2 (i - a.length) (by omega)
    rw [List.getD_eq_getElem?_getD, List.getD_eq_getElem?_getD] at this ⊢
    rw [List.getElem?_append_right (by omega), List.getElem?_append_right (by omega), ← h1]
    exact this
theorem VRL.one {g : Ghost} {w : World} {a : AV} {x : Value} (h : VR g w a x) : VRL g w [a] [x] := ⟨rfl, fun i hi => by
  match i, hi with
  | 0, _ => exact h⟩
theorem VRL.agg {g : Ghost} {w : World} {az : List AV} {vs : Array Value} (h : VRL g w az vs.toList) (hs : az.all AV.scalar = true) : VR g w (.agg az) (.agg vs) := by
  refine .agg az vs (by simpa using h.1) hs (fun i hi => ?_)
  have := h.2 i hi
  simpa [List.getD_eq_getElem?_getD, Array.getD_eq_getD_getElem?] using this
section
variable {H : Type} {enc : TypeId × Value → H} {P : Program} {w : World}
def Reads (enc : TypeId × Value → H) (P : Program) (w : World) (N : Nat) (t : TypeId) (n : Nat) {α : Type} (E : α → List AV) (G : α → Prop) : Prop :=
  P.cellsOf t = n ∧ (∀ a, (E a).length = n) ∧ ∀ fuel cs x, fuel ≤ N → DataW.trod enc P w 0 (fun _ => true) true fuel t cs = some x → ∃ a, G a ∧ VRL (Ghost.all w) w (E a) cs
theorem Reads.weak {N t n : Nat} {α : Type} {E : α → List AV} {G G' : α → Prop} (h : Reads enc P w N t n E G) (hg : ∀ a, G a → G' a) : Reads enc P w N t n E G' :=
  ⟨h.1, h.2.1, fun f cs x hf hx => by obtain ⟨a, h1, h2⟩ := h.2.2 f cs x hf hx; exact ⟨a, hg a h1, h2⟩⟩
theorem Reads.map {N t n : Nat} {α β : Type} {E : α → List AV} {G : α → Prop} {E' : β → List AV} {G' : β → Prop} (h : Reads enc P w N t n E G) (f : α → β) (hE : ∀ a, E' (f a) = E a) (hl : ∀ b, (E' b).length = n) (hg : ∀ a, G a → G' (f a)) : Reads enc P w N t n E' G' :=
  ⟨h.1, hl, fun fu cs x hf hx => by obtain ⟨a, h1, h2⟩ := h.2.2 fu cs x hf hx; exact ⟨f a, hg a h1, by rw [hE]; exact h2⟩⟩
theorem Reads.int {N t : Nat} (ht : P.underlying t = some (.int .i64)) (hc : P.cellsOf t = 1) : Reads enc P w N t 1 (fun n : Int => [.int .i64 n]) (fun n => -9223372036854775808 ≤ n ∧ n ≤ 9223372036854775807) :=
  ⟨hc, fun _ => rfl, fun f cs x _ hx => by
    obtain ⟨n, rfl, _, wf⟩ := DataW.trod_int ht hx
    exact ⟨n, by simpa [Lit.wf, IntKind.min, IntKind.max, IntKind.signed, IntKind.bits] using wf, VRL.one (.int _ _)⟩⟩
theorem Reads.str {N t : Nat} (ht : P.underlying t = some .string) (hc : P.cellsOf t = 1) : Reads enc P w N t 1 (fun s : List UInt8 => [.str s]) (fun _ => True) :=
  ⟨hc, fun _ => rfl, fun f cs x _ hx => by
    obtain ⟨s, rfl, _, _⟩ := DataW.trod_string ht hx
    exact ⟨s.data.toList, trivial, VRL.one (VR.string s)⟩⟩
theorem Reads.bool {N t : Nat} (ht : P.underlying t = some .bool) (hc : P.cellsOf t = 1) : Reads enc P w N t 1 (fun b : Bool => [.bool b]) (fun _ => True) :=
  ⟨hc, fun _ => rfl, fun f cs x _ hx => by
    obtain ⟨b, rfl, _⟩ := DataW.trod_bool ht hx
    exact ⟨b, trivial, VRL.one (.bool b)⟩⟩
theorem Reads.slice {N t e n : Nat} {α : Type} [Inhabited α] {E : α → List AV} {G : α → Prop} (el : El) (mk : α → AV) (ht : P.underlying t = some (.slice e)) (hc : P.cellsOf t = 1) (h : Reads enc P w N e n E G) (hn0 : 0 < n) (hsz : el.sz = n)
    (hfit : ∀ a, (mk a).fits el = true) (hcell : ∀ a c, c < n → (mk a).cell c = (E a).getD c .undef) : Reads enc P w (N + 1) t 1 (fun l : List α => [.lst false el (l.map mk)]) (fun l => ∀ a ∈ l, G a) := by
  refine ⟨hc, fun _ => rfl, fun fuel cs x hf hx => ?_⟩
  rcases DataW.trod_slice ht hx with ⟨rfl, rfl⟩ | ⟨a, len, cap, elems, rest, k, hk, rfl, _, _, hl, _, hlen, hel, _, _⟩
  · exact ⟨[], by simp, VRL.one (.lstE _ _ _ _ (fun h => by cases h))⟩
  have each : ∀ i, i < len → ∃ q : α, G q ∧ ∃ cs', w.cells? 0 (a.add (i * P.cellsOf e)) (P.cellsOf e) = some cs' ∧ VRL (Ghost.all w) w (E q) cs' := fun i hi => by
    have h1 := hel i hi
    rw [List.getElem?_eq_getElem (by omega)] at h1
    obtain ⟨cs', h2, h3⟩ := Option.bind_eq_some_iff.1 h1
    obtain ⟨q, h4, h5⟩ := h.2.2 k cs' _ (by omega) h3
    exact ⟨q, h4, cs', h2, h5⟩
  obtain ⟨q, hq⟩ := Deep.choose_lt each
  refine ⟨(List.range len).map q, fun x hx => by obtain ⟨i, hi, rfl⟩ := List.mem_map.1 hx; exact (hq i (List.mem_range.1 hi)).1, VRL.one ?_⟩
  have hn := h.1
  by_cases h0 : len = 0
  · subst h0; exact .lstE _ _ _ _ (fun h => by cases h)
  have hcells : ∀ i c, i < len → c < n → ∃ v, w.cell? (a.add (i * n + c)) = some v ∧ VR (Ghost.all w) w ((E (q i)).getD c .undef) v := fun i c hi hcc => by
    obtain ⟨_, cs', h2, h3⟩ := hq i hi
    rw [hn] at h2
    obtain ⟨_, h4, h5⟩ := World.cells?_some h2
    have h6 := h5 c hcc
    rw [Deep.add_add, List.getElem?_eq_getElem (by omega)] at h6
    have h7 := h3.2 c (by rw [h.2.1]; exact hcc)
    rw [List.getD_eq_getElem?_getD (l := cs'), List.getElem?_eq_getElem (by omega)] at h7
    exact ⟨_, h6, h7⟩
  obtain ⟨v0, hv0, _⟩ := hcells 0 0 (by omega) (by omega)
  have hspot : a.spot = none := by
    have := World.cell?_spot hv0
    simpa [Addr.add] using this
  obtain ⟨b, off, sp⟩ := a
  simp only at hspot
  subst hspot
  have hlt : b < w.heap.size := by
    rw [add_plain] at hv0
    simp only [World.cell?] at hv0
    split at hv0
    · rename_i x hx; exact (Array.getElem?_eq_some_iff.1 hx).1
    · cases hv0
  have hget : ∀ i, i < len → (((List.range len).map q).map mk).getD i .undef = mk (q i) := fun i hi => by
    simp [List.getD_eq_getElem?_getD, hi]
  have := VR.lst (g := Ghost.all w) (w := w) false el (((List.range len).map q).map mk) b off cap hlt (fun h => by cases h) (by simpa using hl)
    (fun i hi => by rw [hget i (by simpa using hi)]; exact hfit _)
    (fun i c hi hcc => by
      obtain ⟨v, hv, _⟩ := hcells i c (by simpa using hi) (by omega)
      rw [add_plain] at hv
      rw [hsz, hv]; rfl)
    (fun i c hi hcc => by
      obtain ⟨v, hv, hr⟩ := hcells i c (by simpa using hi) (by omega)
      rw [add_plain] at hv
      rw [hget i (by simpa using hi), cellD, hsz, hv, hcell _ _ (by omega)]
      exact hr)
  simpa using this
def FieldsR (enc : TypeId × Value → H) (P : Program) (w : World) (N : Nat) (fs : List Field) (o : Nat) {α : Type} (E : α → List AV) (G : α → Prop) : Prop :=
  ∀ (cs : List Value) (fuel : Nat) (ys : List (DataW H × List MemPlace)), fuel ≤ N → (∀ (i : Nat) (f : Field), fs[i]? = some f → DataW.trod enc P w 0 (fun _ => true) true fuel f.type ((cs.drop f.offset).take (P.cellsOf f.type)) = ys[i]?) → ys.length = fs.length →
    ∃ a, G a ∧ VRL (Ghost.all w) w (E a) ((cs.drop o).take (E a).length)
theorem FieldsR.nil {N o : Nat} : FieldsR enc P w N [] o (fun _ : Unit => []) (fun _ => True) := fun cs fuel ys _ _ _ => ⟨(), trivial, by simpa using VRL.nil _ _⟩
theorem FieldsR.cons {N o n : Nat} {f : Field} {fs : List Field} {α β : Type} {E : α → List AV} {G : α → Prop} {E' : β → List AV} {G' : β → Prop} (h : Reads enc P w N f.type n E G) (ho : f.offset = o) (hk : FieldsR enc P w N fs (o + n) E' G') :
    FieldsR enc P w N (f :: fs) o (fun p : α × β => E p.1 ++ E' p.2) (fun p => G p.1 ∧ G' p.2) := by
  intro cs fuel ys hf hx hl
  cases ys with
  | nil => simp at hl
  | cons y ys =>
    have h0 := hx 0 f rfl
    rw [ho, h.1] at h0
    obtain ⟨a, g1, v1⟩ := h.2.2 fuel _ _ hf (by simpa using h0)
    obtain ⟨b, g2, v2⟩ := hk cs fuel ys hf (fun i f' hf' => by have := hx (i + 1) f' (by simpa using hf'); simpa using this) (by simpa using hl)
    refine ⟨(a, b), ⟨g1, g2⟩, ?_⟩
    have := v1.app v2
    have hlen := h.2.1 a
    have e : (cs.drop o).take n ++ (cs.drop (o + n)).take (E' b).length = (cs.drop o).take (E a ++ E' b).length := by
      rw [List.length_append, hlen, List.take_add, List.drop_drop]
    rwa [e] at this
theorem Reads.struct {N t n : Nat} {fs : Array Field} {α : Type} {E : α → List AV} {G : α → Prop} (ht : P.underlying t = some (.struct fs)) (hc : P.cellsOf t = n) (hE : ∀ a, (E a).length = n) (h : FieldsR enc P w N fs.toList 0 E G) : Reads enc P w (N + 1) t n E G := by
  refine ⟨hc, hE, fun fuel cs x hf hx => ?_⟩
  obtain ⟨xs, k, hk, _, hlen, hxl, hfs⟩ := DataW.trod_struct ht hx
  obtain ⟨a, g, v⟩ := h cs k xs (by omega) (fun i f hf => hfs i f (by simpa using hf)) (by simpa using hxl)
  refine ⟨a, g, ?_⟩
  rw [hE, List.drop_zero, List.take_of_length_le (by omega)] at v
  exact v
theorem Reads.deep {t n : Nat} {α : Type} {E : α → List AV} {G : α → Prop} (h : ∀ N, Reads enc P w N t n E G) {v : Value} {d : DataW H} {ps : List MemPlace} (hd : DataW.Trod enc P w 0 (fun _ => true) true t v d ps) : ∃ a, G a ∧ VRL (Ghost.all w) w (E a) v.cells.toList := by
  obtain ⟨f, hf⟩ := hd
  exact (h f).2.2 f _ _ (Nat.le_refl _) hf
end
end Go.AM
namespace Go.Proofs.YtnfendddolhcoaaGreatDoor
open Go.AM
set_option maxRecDepth 8000
def rngV (v : Val) : Prop := -9223372036854775808 ≤ v.n ∧ v.n ≤ 9223372036854775807
def rngC (l : List Col) : Prop := ∀ c ∈ l, ∀ v ∈ c.order, rngV v
def rngT (t : Table) : Prop := rngC t.ins ∧ rngC t.outs
section
variable {H : Type} {enc : TypeId × Value → H} {w : World}
abbrev i64R (n : Int) : Prop := -9223372036854775808 ≤ n ∧ n ≤ 9223372036854775807
abbrev RD (enc : TypeId × Value → H) (w : World) (N : Nat) (t : TypeId) (n : Nat) {α : Type} (E : α → List AV) (G : α → Prop) : Prop := Reads enc Tryz.prog w N t n E G
theorem rd_int (N : Nat) {t : TypeId} (ht : Tryz.prog.underlying t = some (.int .i64)) (hc : Tryz.prog.cellsOf t = 1) : RD enc w N t 1 (fun n : Int => [I n]) i64R := Reads.int ht hc
theorem rd_str (N : Nat) : RD enc w N 9 1 (fun s : Str => [.str s]) (fun _ => True) := Reads.str Tryz.underlying9 (by kernel_rfl)
theorem rd_kind (N : Nat) : RD enc w N 108 1 (fun n : Int => [I n]) i64R := rd_int N Tryz.underlying108 (by kernel_rfl)
theorem rd_num (N : Nat) : RD enc w N 3 1 (fun n : Int => [I n]) i64R := rd_int N Tryz.underlying3 (by kernel_rfl)
def cVal (v : Val) : List AV := [I v.kind, I v.n, .str v.s]
theorem rd_val (N : Nat) : RD enc w (N + 1) 110 3 cVal rngV := by
  have h := Reads.struct (enc := enc) (w := w) (N := N) (n := 3) Tryz.underlying110 (by kernel_rfl) (fun _ => rfl) (.cons (rd_kind N) rfl (.cons (rd_num N) rfl (.cons (rd_str N) rfl .nil)))
  exact h.map (fun p => ⟨p.1, p.2.1, p.2.2.1⟩) (fun _ => rfl) (fun _ => rfl) (fun p h => h.2.1)
theorem rd_vals (N : Nat) : RD enc w (N + 2) 28 1 (fun l : List Val => [eVals l]) (fun l => ∀ v ∈ l, rngV v) :=
  Reads.slice EV eVal Tryz.underlying28 (by kernel_rfl) (rd_val N) (by decide) rfl (fun _ => rfl) (fun _ _ _ => rfl)
def cCol (c : Col) : List AV := [.str c.name, I c.kind, eVals c.order]
theorem rd_col (N : Nat) : RD enc w (N + 3) 114 3 cCol (fun c => ∀ v ∈ c.order, rngV v) := by
  have h := Reads.struct (enc := enc) (w := w) (N := N + 2) (n := 3) Tryz.underlying114 (by kernel_rfl) (fun _ => rfl) (.cons (rd_str _) rfl (.cons (rd_kind _) rfl (.cons (rd_vals N) rfl .nil)))
  exact h.map (fun p => ⟨p.1, p.2.1, p.2.2.1⟩) (fun _ => rfl) (fun _ => rfl) (fun p h => h.2.2.1)
theorem rd_cols (N : Nat) : RD enc w (N + 4) 22 1 (fun l : List Col => [eCols l]) rngC :=
  Reads.slice EC eCol Tryz.underlying22 (by kernel_rfl) (rd_col N) (by decide) rfl (fun _ => rfl) (fun _ _ _ => rfl)
theorem rd_strs (N : Nat) : RD enc w (N + 1) 105 1 (fun l : List Str => [eStrs l]) (fun _ => True) := by
  refine (Reads.slice E1 eStr Tryz.underlying105 (by kernel_rfl) (rd_str N) (by decide) rfl (fun _ => rfl) ?_).weak (fun _ _ => trivial)
  intro s c hc
  have h0 : c = 0 := by omega
  subst h0; rfl
def cRule (r : Rule) : List AV := [eStrs r.cells, eStrs r.outs]
theorem rd_rule (N : Nat) : RD enc w (N + 2) 107 2 cRule (fun _ => True) := by
  have h := Reads.struct (enc := enc) (w := w) (N := N + 1) (n := 2) Tryz.underlying107 (by kernel_rfl) (fun _ => rfl) (.cons (rd_strs N) rfl (.cons (rd_strs N) rfl .nil))
  exact h.map (fun p => ⟨p.1, p.2.1⟩) (fun _ => rfl) (fun _ => rfl) (fun p h => trivial)
theorem rd_rules (N : Nat) : RD enc w (N + 3) 25 1 (fun l : List Rule => [eRules l]) (fun _ => True) :=
  (Reads.slice ER eRule Tryz.underlying25 (by kernel_rfl) (rd_rule N) (by decide) rfl (fun _ => rfl) (fun _ _ _ => rfl)).weak (fun _ _ => trivial)
theorem rd_table (N : Nat) : RD enc w (N + 5) 27 6 cTable rngT := by
  have h := Reads.struct (enc := enc) (w := w) (N := N + 4) (n := 6) Tryz.underlying27 (by kernel_rfl) (fun _ => rfl) (.cons (rd_str _) rfl (.cons (rd_cols N) rfl (.cons (rd_cols N) rfl (.cons (rd_int _ Tryz.underlying23 (by kernel_rfl)) rfl (.cons (rd_int _ Tryz.underlying24 (by kernel_rfl)) rfl (.cons (rd_rules (N + 1)) rfl .nil))))))
  exact h.map (fun p => ⟨p.1, p.2.1, p.2.2.1, p.2.2.2.1, p.2.2.2.2.1, p.2.2.2.2.2.1⟩) (fun _ => rfl) (fun _ => rfl) (fun p h => ⟨h.2.1, h.2.2.1⟩)
theorem rd_act (N : Nat) : RD enc w (N + 6) 30 12 cAct (fun _ => True) := by
  have h := Reads.struct (enc := enc) (w := w) (N := N + 5) (n := 12) Tryz.underlying30 (by kernel_rfl) (fun _ => rfl) (.cons (rd_num _) rfl (.cons (rd_table N) rfl (.cons (rd_str _) rfl (.cons (rd_num _) rfl (.cons (rd_vals (N + 3)) rfl (.cons (rd_num _) rfl (.cons (rd_num _) rfl .nil)))))))
  exact h.map (fun p => (⟨p.1, p.2.1, p.2.2.1, p.2.2.2.1, p.2.2.2.2.1, p.2.2.2.2.2.1, p.2.2.2.2.2.2.1⟩ : Act)) (fun _ => rfl) (fun _ => rfl) (fun p h => trivial)
theorem act_of {v : Value} {d : DataW H} {ps : List MemPlace} {base : Nat} (hval : Value.okWide Tryz.prog w .any base 30 v) (hd : DataW.Trod enc Tryz.prog w 0 (fun _ => true) true 30 v d ps) : ∃ a : Act, VR (Ghost.all w) w (eAct a) v := by
  obtain ⟨cs, rfl, _⟩ := Go.WideShapes.okWide_struct Tryz.underlying30 hval
  obtain ⟨t, _, h2⟩ := Reads.deep (fun N => by
    have := rd_act (enc := enc) (w := w) N
    exact ⟨this.1, this.2.1, fun f cs x hf hx => this.2.2 f cs x (by omega) hx⟩) hd
  exact ⟨t, VRL.agg h2 rfl⟩
end
def vAct : Value := .agg #[.int .i64 0, .string ByteArray.empty, .slice none 0 0, .slice none 0 0, .int .i64 0, .int .i64 0, .slice none 0 0, .string ByteArray.empty, .int .i64 0, .slice none 0 0, .int .i64 0, .int .i64 0]
end Go.Proofs.YtnfendddolhcoaaGreatDoor
namespace Go.Proofs.YtnfendddolhcoaaGreatDoor
open Go.AM Go.ChangeShapes Go.WideShapes Go.ChangeAt Go.RowKit
theorem own : ownKnob Tryz.prog.godebug = none := by kernel_rfl
theorem kids : Kids Tryz.prog (· < Tryz.prog.types.size) := kids_rows (by kernel_rfl) (by kernel_rfl)
theorem full : ∀ t e, t < Tryz.prog.types.size → Tryz.prog.underlying t = some (.slice e) → 0 < Tryz.prog.cellsOf e := slices_full_of Tryz.prog (by kernel_rfl)
def laidL : List (String × DataW Unit) := Rows.repoNilRow.laid
theorem pow_of_laid {W : World} (_ : laidMetH Tryz.prog laidL W) : GlobR (Ghost.all W) W := ⟨fun b hb => (by cases hb), trivial⟩
def litOf : DataW Unit → List Value
  | .lit (.int k n) => [.int k n]
  | .agg l => l.map fun d => match d with
    | .lit (.int k n) => .int k n
    | _ => Go.undef
  | _ => [Go.undef]
def litsOf : DataW Unit → Array Value
  | .agg l => (l.flatMap litOf).toArray
  | _ => #[]
def laidObj (d : DataW Unit) : Obj → Obj
  | .cells _ t fz => .cells (litsOf d) t fz
  | o => o
noncomputable def laidWorld (os : Os) : World :=
  { World.holding Tryz.prog os ⟨#[], #[], []⟩ with heap := (((((World.holding Tryz.prog os ⟨#[], #[], []⟩).heap.modify 1 (laidObj Rows.laid_unicode_utf8_acceptRanges)).modify 0 (laidObj Rows.laid_unicode_utf8_first)).modify 3 (laidObj Rows.laid_internal_strconv_uint64pow10)).modify 4 (laidObj Rows.laid_math_bits_deBruijn32tab)).modify 5 (laidObj Rows.laid_math_bits_deBruijn64tab) }
theorem laid_met (os : Os) (args : Array Value) : laidMetH Tryz.prog laidL ((laidWorld os).forCall (fun _ _ => 0) ⟨#[], args, []⟩).memory :=
  (laidMet_of_run' 8 (by kernel_rfl) (by kernel_rfl) : laidMet Tryz.prog laidL ((laidWorld os).forCall (fun _ _ => 0) ⟨#[], args, []⟩).memory)
set_option maxRecDepth 100000 in
theorem stepL {H : Type} {enc : TypeId × Value → H} {os : Os} {f : FuncId} {fn : Func} {s : ChangeSpec} (args0 : Array Value)
    (started : os.Started) (noInit : Tryz.checked.prog.inits.idxOf? f = none) (hfn : Tryz.checked.prog.funcs[f]? = some fn)
    (hv : ((laidWorld os).forCall (fun _ _ => 0) ⟨#[], args0, []⟩).variablesB Tryz.checked.prog = true)
    (hr : (((laidWorld os).forCall (fun _ _ => 0) ⟨#[], args0, []⟩).heap.toList.drop Tryz.checked.prog.globals.size).take ((begin Tryz.checked.prog (fun _ _ => 0) default).world.heap.size - Tryz.checked.prog.globals.size) =
      (begin Tryz.checked.prog (fun _ _ => 0) default).world.heap.toList.drop Tryz.checked.prog.globals.size)
    (hok : Input.okWideB Tryz.checked.prog ((laidWorld os).forCall (fun _ _ => 0) ⟨#[], args0, []⟩) f ⟨#[], args0, []⟩ = true)
    (hpre : s.preB enc Tryz.checked.prog fn [] false ((laidWorld os).forCall (fun _ _ => 0) ⟨#[], args0, []⟩).memory args0 8 = true)
    (hsz : s.sizedB enc Tryz.checked.prog fn false ((laidWorld os).forCall (fun _ _ => 0) ⟨#[], args0, []⟩).memory args0 8 = true)
    (contract : ∀ (W : World) (base : Nat) (args : Array Value) (ds gs : List (DataW H)) (before : List MemPlace),
      (∀ (j : Nat) t v, fn.params[j]? = some t → args[j]? = some v → Value.okWide Tryz.prog W .any base t v) →
      DataW.Whole enc Tryz.prog fn.params.toList s.vars false W args.toList ds gs before → GlobR (Ghost.all W) W →
      Calls Tryz.prog f args W fun e W' => ∃ v, e = .returned v ∧ s.post enc Tryz.prog fn false true false false W args v W') :
    ReturnsInHanded {} Tryz.checked os f .any (fun w args => (s.pre enc Tryz.checked.prog fn [] false w args ∧ laidMetH Tryz.prog laidL w) ∧ sizedMet enc Tryz.checked.prog fn (OpenSpec.ofChange s) false w args) (s.post enc Tryz.checked.prog fn false true false false) := by
  refine returnsInHanded_of_change_and (C := Tryz.checked) (X := fun w _ => laidMetH Tryz.prog laidL w) (fun _ _ _ hh h => h.of_heap hh) own started noInit hfn
    (ChangeSpec.witness_at (enc := enc) (C := Tryz.checked) (os := os) (X := fun w _ => laidMetH Tryz.prog laidL w) false (laidWorld os) args0 8 rfl hv hr hok hpre hsz (laid_met os _)) ?_
  intro W base args ds gs before h1 h2 _ _ hL _
  exact contract W base args ds gs before h1 h2 (pow_of_laid hL)
theorem args2 {a b : AV} {x y : Value} {g : Ghost} {w : World} (h1 : VR g w a x) (h2 : VR g w b y) : ∀ i, i < [a, b].length → VR g w ([a, b].getD i .undef) (#[x, y].getD i Go.undef) := by
  intro i hi
  match i, hi with
  | 0, _ => exact h1
  | 1, _ => exact h2
theorem goes_gen (P : Program) (h : P.funcs.any Func.goes = false) (f : FuncId) : P.goes f = false := by
  unfold Program.goes
  rw [h, Bool.and_false, Bool.or_false, List.any_eq_false]
  intro g _
  cases hg : P.funcs[g]? with
  | none => simp
  | some fn =>
    rw [Array.any_eq_false] at h
    obtain ⟨hl, rfl⟩ := Array.getElem?_eq_some_iff.1 hg
    simpa using h g hl
theorem goesBy_gen (P : Program) (h : P.funcs.any Func.goes = false) (c : OpenClaim) (hs : c.start = .entering) : false = c.goesBy P := by
  unfold OpenClaim.goesBy Program.goesAt Program.goesFrom
  rw [hs]
  cases P.funcNamed c.func with
  | none => rfl
  | some f => show false = (P.goes f || false); rw [goes_gen P h]; rfl
theorem goes_none : Tryz.pinned.checked.prog.funcs.any Func.goes = false := by kernel_rfl
theorem fx_laid : laidOutB Tryz.checked.prog = true := by kernel_rfl
theorem fx_maps : mapsRowed Tryz.checked.prog = true := by kernel_rfl
theorem fx_stops : Tryz.checked.prog.stopsHeard = true := by kernel_rfl
theorem fx_enter : Tryz.checked.prog.mayEnter = true := by kernel_rfl
end Go.Proofs.YtnfendddolhcoaaGreatDoor
namespace Go.Proofs
open Go.Shelf
def Tryz.lays106_ren : Go.Shelf.Ren := ⟨fun | 106 => 300 | 213 => 370 | 265 => 424 | n => n, fun | 9 => 9 | 3 => 3 | n => n, fun | n => n⟩
theorem Tryz.lays106 : Go.Proofs.Lays.n106 Tryz.prog Tryz.lays106_ren := {
  mixed := by kernel_rfl
  f106 := Tryz.func300.trans (congrArg some (by kernel_rfl))
  f213 := Tryz.func370.trans (congrArg some (by kernel_rfl))
  f265 := Tryz.func424.trans (congrArg some (by kernel_rfl))
  t3 := Tryz.underlying3
  a3 := Tryz.isAgg3
  z3 := Tryz.sizeOf3
  v3 := Tryz.zeroValue3
  t9 := Tryz.underlying9
  a9 := Tryz.isAgg9
  z9 := Tryz.sizeOf9
  v9 := Tryz.zeroValue9 }
open Go.RowKit in
theorem Tryz.strings_Compare (a b : ByteArray) (w : World) :
    Calls Tryz.prog 300 #[.string a, .string b] w fun e w' => e = .returned (.int .i64 (Lib.compareBytes a.data.toList b.data.toList)) ∧ w' = w := Any.strings_Compare Tryz.lays106 a b w
def Tryz.lays105_ren : Go.Shelf.Ren := ⟨fun | 105 => 218 | 212 => 301 | 99 => 302 | 165 => 287 | 166 => 244 | 170 => 206 | 169 => 207 | 263 => 371 | 264 => 372 | 206 => 373 | 240 => 319 | 241 => 363 | 276 => 382 | 277 => 420 | n => n, fun | 9 => 9 | 3 => 3 | 4 => 4 | 20 => 20 | 0 => 0 | 46 => 254 | 109 => 424 | 5 => 5 | 72 => 333 | 76 => 366 | 51 => 489 | 146 => 490 | 53 => 251 | 148 => 492 | 70 => 331 | 37 => 216 | 75 => 365 | 127 => 419 | 164 => 500 | 80 => 149 | n => n, fun | n => n⟩
theorem Tryz.lays105 : Go.Proofs.Lays.n105 Tryz.prog Tryz.lays105_ren := {
  mixed := by kernel_rfl
  f99 := Tryz.func302.trans (congrArg some (by kernel_rfl))
  f105 := Tryz.func218.trans (congrArg some (by kernel_rfl))
  f165 := Tryz.func287.trans (congrArg some (by kernel_rfl))
  f166 := Tryz.func244.trans (congrArg some (by kernel_rfl))
  f169 := Tryz.func207.trans (congrArg some (by kernel_rfl))
  f170 := Tryz.func206.trans (congrArg some (by kernel_rfl))
  f206 := Tryz.func373.trans (congrArg some (by kernel_rfl))
  f212 := Tryz.func301.trans (congrArg some (by kernel_rfl))
  f240 := Tryz.func319.trans (congrArg some (by kernel_rfl))
  f241 := Tryz.func363.trans (congrArg some (by kernel_rfl))
  f263 := Tryz.func371.trans (congrArg some (by kernel_rfl))
  f264 := Tryz.func372.trans (congrArg some (by kernel_rfl))
  f276 := Tryz.func382.trans (congrArg some (by kernel_rfl))
  f277 := Tryz.func420.trans (congrArg some (by kernel_rfl))
  t0 := Tryz.underlying0
  a0 := Tryz.isAgg0
  z0 := Tryz.sizeOf0
  v0 := Tryz.zeroValue0
  t3 := Tryz.underlying3
  a3 := Tryz.isAgg3
  z3 := Tryz.sizeOf3
  v3 := Tryz.zeroValue3
  t4 := Tryz.underlying4
  a4 := Tryz.isAgg4
  z4 := Tryz.sizeOf4
  v4 := Tryz.zeroValue4
  t5 := Tryz.underlying5
  a5 := Tryz.isAgg5
  z5 := Tryz.sizeOf5
  v5 := Tryz.zeroValue5
  t9 := Tryz.underlying9
  a9 := Tryz.isAgg9
  z9 := Tryz.sizeOf9
  v9 := Tryz.zeroValue9
  t20 := Tryz.underlying20
  a20 := Tryz.isAgg20
  z20 := Tryz.sizeOf20
  v20 := Tryz.zeroValue20
  t37 := Tryz.underlying216
  a37 := Tryz.isAgg216
  z37 := Tryz.sizeOf216
  v37 := Tryz.zeroValue216
  t46 := Tryz.underlying254
  a46 := Tryz.isAgg254
  z46 := Tryz.sizeOf254
  v46 := Tryz.zeroValue254
  t51 := Tryz.underlying489
  a51 := Tryz.isAgg489
  z51 := Tryz.sizeOf489
  v51 := Tryz.zeroValue489
  t53 := Tryz.underlying251
  a53 := Tryz.isAgg251
  z53 := Tryz.sizeOf251
  v53 := Tryz.zeroValue251
  t70 := Tryz.underlying331
  a70 := Tryz.isAgg331
  z70 := Tryz.sizeOf331
  v70 := Tryz.zeroValue331
  t72 := Tryz.underlying333
  a72 := Tryz.isAgg333
  z72 := Tryz.sizeOf333
  v72 := Tryz.zeroValue333
  t75 := Tryz.underlying365
  a75 := Tryz.isAgg365
  z75 := Tryz.sizeOf365
  v75 := Tryz.zeroValue365
  t76 := Tryz.underlying366
  a76 := Tryz.isAgg366
  z76 := Tryz.sizeOf366
  v76 := Tryz.zeroValue366
  t109 := Tryz.underlying424
  a109 := Tryz.isAgg424
  z109 := Tryz.sizeOf424
  v109 := Tryz.zeroValue424
  t127 := Tryz.underlying419
  a127 := Tryz.isAgg419
  z127 := Tryz.sizeOf419
  v127 := Tryz.zeroValue419
  t146 := Tryz.underlying490
  a146 := Tryz.isAgg490
  z146 := Tryz.sizeOf490
  v146 := Tryz.zeroValue490
  t148 := Tryz.underlying492
  a148 := Tryz.isAgg492
  z148 := Tryz.sizeOf492
  v148 := Tryz.zeroValue492
  t164 := Tryz.underlying500
  a164 := Tryz.isAgg500
  z164 := Tryz.sizeOf500
  v164 := Tryz.zeroValue500 }
theorem Tryz.Builder_Extra_105 : Builder.Extra Tryz.prog Tryz.lays105_ren := {
  sizeBuilder := by kernel_rfl
  liesBuilder := by kernel_rfl
  t5 := Tryz.underlying5
  a5 := Tryz.isAgg5
  z5 := Tryz.sizeOf5
  v5 := Tryz.zeroValue5
  infoByte := by kernel_rfl
  cellsByte := by kernel_rfl
  sizeByte := by kernel_rfl
  neB5 := by decide }
open Go.RowKit Go.Lib in
theorem Tryz.strings_Repeat (s : ByteArray) (c : Nat) (w : World) (hc : c ≤ 9223372036854775807) (hlen : s.size * c ≤ 140737488355328) :
    Calls Tryz.prog 218 #[.string s, .int .i64 c] w fun e w' => e = .returned (.string ⟨(Lib.repeatL s.data.toList c).toArray⟩) ∧ Below w.heap.size w w' := Any.strings_Repeat Tryz.lays105 Tryz.Builder_Extra_105 s c w hc hlen
end Go.Proofs
