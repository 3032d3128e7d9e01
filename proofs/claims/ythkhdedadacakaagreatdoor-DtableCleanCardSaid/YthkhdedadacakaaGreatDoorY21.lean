/- Part of a proof: see Root. -/
import Derived.Test.YthkhdedadacakaaGreatDoorY20
import Derived.Shelf.Strings.OnBuilder
import Derived.Shelf.Small.Wraps
import Derived.Shelf.LaysM
import Derived.Shelf.Strconv.Itoa3
import Derived.Test.YthkhdedadacakaaGreatDoorProg
set_option linter.unnecessarySimpa false
set_option linter.unusedSimpArgs false
set_option linter.unusedVariables false
namespace Go.Proofs.YthkhdedadacakaaGreatDoor
open Go.AM
set_option maxRecDepth 4000
@[go_sem] theorem lastA {α : Type} (τ : List α) (d : α) : (τ ++ [d])[τ.length]? = some d := by simp
@[go_sem] theorem setA {α : Type} (τ : List α) (d e : α) : (τ ++ [d]).set τ.length e = τ ++ [e] := by simp
@[go_sem] theorem set2b {α : Type} (τ : List α) (c d e : α) : (τ ++ [c] ++ [d]).set τ.length e = τ ++ [e] ++ [d] := by simp
set_option maxHeartbeats 4000000 in
theorem cell_Typed (cs : List Col) (hcs : cs.length ≤ 2 ^ 60) (kind : Int) (c : Cell) (h : okC c) : CallF Tryz.prog n_cell_Typed [eCell c, I kind, eCols cs] (I (typC cs kind c)) := by
  have hR := cell_Check c h
  obtain ⟨hl, ht⟩ := h
  cases hr : rightC c with
  | false =>
    rw [show typC cs kind c = 2 from by unfold typC; rw [if_neg (by simp [hr])]]
    rw [hr] at hR
    simp only [errB, Bool.false_eq_true, if_false] at hR
    simp only [eCell, eTests, eCols] at hR ⊢
    refine CallF.of_nil (of_cell_Typed (by simp) ?_) (by simp)
    unfold b_cell_Typed WpR
    intro Q hQr hQn hQp
    repeat' first | refine go_ ?_ | refine cf_ hR ?_ | refine br_ (fun hw => ?_) (fun hw => ?_) <;> try omega | fail
    exact leafE rfl rfl
  | true =>
    rw [hr] at hR
    simp only [errB, if_true] at hR
    simp only [eCell, eTests, eCols] at hR ⊢
    refine CallF.of_nil (of_cell_Typed (by simp) ?_) (by simp)
    unfold b_cell_Typed WpR
    intro Q hQr hQn hQp
    repeat' first | refine go_ ?_ | refine cf_ hR ?_ | refine br_ (fun hw => ?_) (fun hw => ?_) <;> try omega | fail
    with_reducible refine loop_i [6, 9, 10, 12, 13, 14, 23, 24, 25, 26, 27, 28, 29, 30, 31, 32, 33, 34, 35, 36, 37, 38, 39, 40, 41, 42, 43, 44, 45, 46, 47, 48, 49, 50, 51, 52, 53] (fun q : Nat × List AObj => [(23, I q.1)]) (fun q => .cells [.bool c.any, .bool c.neg, .lst false ES (c.tests.map eTest)] :: q.2) (fun q => q.1 ≤ c.tests.length ∧ ∀ k, k < q.1 → (typT cs kind (c.tests.getD k default) != 0) = false) (fun q => c.tests.length - q.1) (0, []) ?_ ?_ ?_ ?_
    · simp
    · rfl
    · exact at_
    rintro ⟨i, τ⟩ r ⟨h1, h2⟩
    dsimp only at h1 h2
    by_cases hi : i < c.tests.length
    · have hti := ht _ (getD_mem hi)
      have hat := fun e he hne => typC_at (cs := cs) (kind := kind) (e := e) hr hi h2 he hne
      have hbs := fun he => before_succ h2 (i := i) he
      obtain ⟨t, hteq⟩ : ∃ t, c.tests.getD i default = t := ⟨_, rfl⟩
      rw [hteq] at hti hat hbs
      have ka := typing_KindR cs hcs t.a hti.1.1 hti.1.2
      have kb := typing_KindR cs hcs t.b hti.2.1 hti.2.2
      have fa := cell_fits t kind (kindR cs t.a).1
      have fb := cell_fits t kind (kindR cs t.b).1
      have hp := cell_parts t
      simp only [typT] at hat hbs
      generalize fitsT t kind (kindR cs t.a).1 = va at *
      generalize fitsT t kind (kindR cs t.b).1 = vb at *
      generalize kindR cs t.a = ra at *
      generalize kindR cs t.b = rb at *
      rw [eExpr_eq] at ka kb
      simp only [eTest, eExprs, eCols] at ka kb fa fb
      by_cases h6 : t.kind = 6
      · rw [partsT, if_pos h6, eExprs, List.map_cons, List.map_cons, List.map_nil, eExpr_eq, eExpr_eq] at hp
        simp only [eTest, eExprs] at hp
        simp only [if_pos h6] at hat hbs
        repeat' first | simp (disch := omega) only [go_sem, hQr, hQn, hQp, wrapK_i64, wrapK_u8, wrapK_u64, Nat.reduceAdd, Nat.reduceBEq, ↓reduceIte, hteq] | refine go_ ?_ | refine cf_ hp ?_ | refine br_ (fun hw => ?_) (fun hw => ?_) <;> try omega | fail
        with_reducible refine loop_i [6, 10, 12, 13, 14, 30, 31, 32, 33, 34, 35, 36, 37, 38, 39, 40, 41, 42, 43, 44, 45, 46, 47, 48, 49, 50] (fun q : Int × Bool × List AObj => [(30, I q.1), (10, .bool q.2.1)]) (fun q => .cells [.bool c.any, .bool c.neg, .lst false ES (c.tests.map eTest)] :: q.2.2) (fun q => ((q.1 = 0 ∧ q.2.1 = true) ∨ (q.1 = 1 ∧ ra.2 = 0 ∧ q.2.1 = va) ∨ (q.1 = 2 ∧ ra.2 = 0 ∧ rb.2 = 0 ∧ q.2.1 = (va && vb))) ∧ q.2.2[τ.length]? = some (.cells [I t.kind, I t.a.op, I t.a.v.kind, I t.a.v.n, .str t.a.v.s, .str t.a.s, .lst false EX (t.a.l.map eExpr), I t.b.op, I t.b.v.kind, I t.b.v.n, .str t.b.v.s, .str t.b.s, .lst false EX (t.b.l.map eExpr), .bool t.lo, .bool t.hi])) (fun q => (2 - q.1).toNat) (0, true, τ ++ [.cells [I t.kind, I t.a.op, I t.a.v.kind, I t.a.v.n, .str t.a.v.s, .str t.a.s, .lst false EX (t.a.l.map eExpr), I t.b.op, I t.b.v.kind, I t.b.v.n, .str t.b.v.s, .str t.b.s, .lst false EX (t.b.l.map eExpr), .bool t.lo, .bool t.hi]]) ?_ ?_ ?_ ?_
        · exact ⟨.inl ⟨rfl, rfl⟩, by simp⟩
        · rfl
        · exact at_
        clear hp
        rintro ⟨j, ok, τ2⟩ r2 ⟨hj, hk⟩
        dsimp only at hj hk
        have hk2 := fun d : AObj => (List.getElem?_append_left (l₁ := τ2) (l₂ := [d]) (List.getElem?_eq_some_iff.1 hk).1).trans hk
        rcases hj with ⟨rfl, rfl⟩ | ⟨rfl, hra, rfl⟩ | ⟨rfl, hra, hrb, rfl⟩
        · repeat' first | simp (disch := omega) only [go_sem, hQr, hQn, hQp, wrapK_i64, wrapK_u8, wrapK_u64, Nat.reduceAdd, Nat.reduceBEq, ↓reduceIte, hk, hk2, Int.toNat_one] | refine go_ ?_ | refine cf_ ka ?_ | refine cf_ fa ?_ | refine br_ (fun hw => ?_) (fun hw => ?_) <;> try omega | fail
          all_goals first
            | (refine leafE ?_ rfl; refine congrArg I ?_; symm; refine hat _ ?_ ?_ <;> (clear hat hbs; simp_all; done))
            | (refine ⟨(1, va, τ2 ++ [.cells [I t.a.op, I t.a.v.kind, I t.a.v.n, .str t.a.v.s, .str t.a.s, .lst false EX (t.a.l.map eExpr)]]), ?_, ?_, ?_, ou_, at_⟩ <;> (try dsimp only)
               · exact ⟨.inr (.inl ⟨rfl, by assumption, rfl⟩), hk2 _⟩
               · omega
               all_goals (first | rfl | (simp [go_sem]; done)))
            | exact ab_
        · cases ok
          · repeat' first | simp (disch := omega) only [go_sem, hQr, hQn, hQp, wrapK_i64, wrapK_u8, wrapK_u64, Nat.reduceAdd, Nat.reduceBEq, ↓reduceIte, hk, hk2, Int.toNat_one] | refine go_ ?_ | refine cf_ kb ?_ | refine cf_ fb ?_ | refine br_ (fun hw => ?_) (fun hw => ?_) <;> try omega | fail
            all_goals first
              | (refine leafE ?_ rfl; refine congrArg I ?_; symm; refine hat _ ?_ ?_ <;> (clear hat hbs; simp_all; done))
              | (refine ⟨(2, false, τ2 ++ [.cells [I t.b.op, I t.b.v.kind, I t.b.v.n, .str t.b.v.s, .str t.b.s, .lst false EX (t.b.l.map eExpr)]]), ?_, ?_, ?_, ou_, at_⟩ <;> (try dsimp only)
                 · exact ⟨.inr (.inr ⟨rfl, by assumption, by assumption, rfl⟩), hk2 _⟩
                 · omega
                 all_goals (first | rfl | (simp [go_sem]; done)))
              | exact ab_
          · repeat' first | simp (disch := omega) only [go_sem, hQr, hQn, hQp, wrapK_i64, wrapK_u8, wrapK_u64, Nat.reduceAdd, Nat.reduceBEq, ↓reduceIte, hk, hk2, Int.toNat_one] | refine go_ ?_ | refine cf_ kb ?_ | refine cf_ fb ?_ | refine br_ (fun hw => ?_) (fun hw => ?_) <;> try omega | fail
            all_goals first
              | (refine leafE ?_ rfl; refine congrArg I ?_; symm; refine hat _ ?_ ?_ <;> (clear hat hbs; simp_all; done))
              | (refine ⟨(2, vb, τ2 ++ [.cells [I t.b.op, I t.b.v.kind, I t.b.v.n, .str t.b.v.s, .str t.b.s, .lst false EX (t.b.l.map eExpr)]]), ?_, ?_, ?_, ou_, at_⟩ <;> (try dsimp only)
                 · exact ⟨.inr (.inr ⟨rfl, by assumption, by assumption, rfl⟩), hk2 _⟩
                 · omega
                 all_goals (first | rfl | (simp [go_sem]; done)))
              | exact ab_
        · repeat' first | simp (disch := omega) only [go_sem, hQr, hQn, hQp, wrapK_i64, wrapK_u8, wrapK_u64, Nat.reduceAdd, Nat.reduceBEq, ↓reduceIte, hk, hk2] | refine go_ ?_ | refine br_ (fun hw => ?_) (fun hw => ?_) <;> try omega | fail
          all_goals first
            | (refine leafE ?_ rfl; refine congrArg I ?_; symm; refine hat _ ?_ ?_ <;> (clear hat hbs; simp_all; done))
            | (refine ⟨(i + 1, τ2), ?_, ?_, ?_, ou_, at_⟩ <;> (try dsimp only)
               · exact ⟨by omega, hbs (by clear hat hbs; simp_all)⟩
               · omega
               all_goals (first | rfl | (simp [go_sem]; done)))
            | exact ab_
      · rw [partsT, if_neg h6, eExprs, List.map_cons, List.map_nil, eExpr_eq] at hp
        simp only [eTest, eExprs] at hp
        simp only [if_neg h6] at hat hbs
        repeat' first | simp (disch := omega) only [go_sem, hQr, hQn, hQp, wrapK_i64, wrapK_u8, wrapK_u64, Nat.reduceAdd, Nat.reduceBEq, ↓reduceIte, hteq] | refine go_ ?_ | refine cf_ hp ?_ | refine br_ (fun hw => ?_) (fun hw => ?_) <;> try omega | fail
        with_reducible refine loop_i [6, 10, 12, 13, 14, 30, 31, 32, 33, 34, 35, 36, 37, 38, 39, 40, 41, 42, 43, 44, 45, 46, 47, 48, 49, 50] (fun q : Int × Bool × List AObj => [(30, I q.1), (10, .bool q.2.1)]) (fun q => .cells [.bool c.any, .bool c.neg, .lst false ES (c.tests.map eTest)] :: q.2.2) (fun q => ((q.1 = 0 ∧ q.2.1 = true) ∨ (q.1 = 1 ∧ ra.2 = 0 ∧ q.2.1 = va)) ∧ q.2.2[τ.length]? = some (.cells [I t.kind, I t.a.op, I t.a.v.kind, I t.a.v.n, .str t.a.v.s, .str t.a.s, .lst false EX (t.a.l.map eExpr), I t.b.op, I t.b.v.kind, I t.b.v.n, .str t.b.v.s, .str t.b.s, .lst false EX (t.b.l.map eExpr), .bool t.lo, .bool t.hi])) (fun q => (2 - q.1).toNat) (0, true, τ ++ [.cells [I t.kind, I t.a.op, I t.a.v.kind, I t.a.v.n, .str t.a.v.s, .str t.a.s, .lst false EX (t.a.l.map eExpr), I t.b.op, I t.b.v.kind, I t.b.v.n, .str t.b.v.s, .str t.b.s, .lst false EX (t.b.l.map eExpr), .bool t.lo, .bool t.hi]]) ?_ ?_ ?_ ?_
        · exact ⟨.inl ⟨rfl, rfl⟩, by simp⟩
        · rfl
        · exact at_
        clear hp
        rintro ⟨j, ok, τ2⟩ r2 ⟨hj, hk⟩
        dsimp only at hj hk
        have hk2 := fun d : AObj => (List.getElem?_append_left (l₁ := τ2) (l₂ := [d]) (List.getElem?_eq_some_iff.1 hk).1).trans hk
        rcases hj with ⟨rfl, rfl⟩ | ⟨rfl, hra, rfl⟩
        · repeat' first | simp (disch := omega) only [go_sem, hQr, hQn, hQp, wrapK_i64, wrapK_u8, wrapK_u64, Nat.reduceAdd, Nat.reduceBEq, ↓reduceIte, hk, hk2, Int.toNat_one] | refine go_ ?_ | refine cf_ ka ?_ | refine cf_ fa ?_ | refine br_ (fun hw => ?_) (fun hw => ?_) <;> try omega | fail
          all_goals first
            | (refine leafE ?_ rfl; refine congrArg I ?_; symm; refine hat _ ?_ ?_ <;> (clear hat hbs; simp_all; done))
            | (refine ⟨(1, va, τ2 ++ [.cells [I t.a.op, I t.a.v.kind, I t.a.v.n, .str t.a.v.s, .str t.a.s, .lst false EX (t.a.l.map eExpr)]]), ?_, ?_, ?_, ou_, at_⟩ <;> (try dsimp only)
               · exact ⟨.inr ⟨rfl, by assumption, rfl⟩, hk2 _⟩
               · omega
               all_goals (first | rfl | (simp [go_sem]; done)))
            | exact ab_
        · repeat' first | simp (disch := omega) only [go_sem, hQr, hQn, hQp, wrapK_i64, wrapK_u8, wrapK_u64, Nat.reduceAdd, Nat.reduceBEq, ↓reduceIte, hk, hk2] | refine go_ ?_ | refine br_ (fun hw => ?_) (fun hw => ?_) <;> try omega | fail
          all_goals first
            | (refine leafE ?_ rfl; refine congrArg I ?_; symm; refine hat _ ?_ ?_ <;> (clear hat hbs; simp_all; done))
            | (refine ⟨(i + 1, τ2), ?_, ?_, ?_, ou_, at_⟩ <;> (try dsimp only)
               · exact ⟨by omega, hbs (by clear hat hbs; simp_all)⟩
               · omega
               all_goals (first | rfl | (simp [go_sem]; done)))
            | exact ab_
    · repeat' first | refine go_ ?_ | refine br_ (fun hw => ?_) (fun hw => ?_) <;> try omega | fail
      refine leafE ?_ rfl
      rw [typC_non hr (fun k hk => h2 k (by omega))]
def sameT (a b : Test) : Bool := decide (a.kind = b.kind) && (a.lo == b.lo && a.hi == b.hi) && sameS a.a b.a && sameS a.b b.b
def sameC (c d : Cell) : Bool := decide (c.any = d.any) && decide (c.neg = d.neg) && eqL sameT c.tests d.tests
def smT (t : Test) : Prop := brX t.a ∧ brX t.b
def smC (c : Cell) : Prop := c.tests.length ≤ 2 ^ 60 ∧ ∀ t ∈ c.tests, smT t
theorem cell_Same_1 (a b : Test) (ha : smT a) (hb : smT b) : CallF Tryz.prog n_cell_Same_1 [eTest a, eTest b] (.bool (sameT a b)) := by
  have s1 := syntax_Same a.a b.a ha.1 hb.1
  have s2 := syntax_Same a.b b.b ha.2 hb.2
  have o1 := cell_of a
  have o2 := cell_of b
  have hS : sameT a b = (decide (a.kind = b.kind) && (a.lo == b.lo && a.hi == b.hi) && sameS a.a b.a && sameS a.b b.b) := rfl
  rw [hS]
  clear hS
  generalize sameS a.a b.a = v1 at *
  generalize sameS a.b b.b = v2 at *
  rw [eExpr_eq, eExpr_eq] at s1 s2
  simp only [eTest, eExprs] at o1 o2 ⊢
  refine CallF.of_nil (of_cell_Same_1 (by simp) ?_) (by simp)
  unfold b_cell_Same_1 WpR
  intro Q hQr hQn hQp
  repeat' first | refine go_ ?_ | refine cf_ o1 ?_ | refine cf_ o2 ?_ | refine cf_ s1 ?_ | refine cf_ s2 ?_ | refine br_ (fun hw => ?_) (fun hw => ?_) <;> try omega | fail
  all_goals (refine leafE ?_ rfl; refine congrArg AV.bool ?_; rw [Bool.eq_iff_iff]; simp_all)
theorem cell_Same (c d : Cell) (hc : smC c) (hd : smC d) : CallF Tryz.prog n_cell_Same [eCell c, eCell d] (.bool (sameC c d)) := by
  have he := slices_EqualFunc_Test n_cell_Same_1 [] rfl sameT c.tests d.tests (fun k h1 h2 => cell_Same_1 _ _ (hc.2 _ (getD_mem h1)) (hd.2 _ (getD_mem h2))) (by have := hc.1; omega) (by have := hd.1; omega)
  have hS : sameC c d = (decide (c.any = d.any) && decide (c.neg = d.neg) && eqL sameT c.tests d.tests) := rfl
  rw [hS]
  clear hS
  generalize eqL sameT c.tests d.tests = v at *
  simp only [eCell, eTests] at he ⊢
  refine CallF.of_nil (of_cell_Same (by simp) ?_) (by simp)
  unfold b_cell_Same WpR
  intro Q hQr hQn hQp
  repeat' first | refine go_ ?_ | refine cf_ he ?_ | refine br_ (fun hw => ?_) (fun hw => ?_) <;> try omega | fail
  all_goals (refine leafE ?_ rfl; refine congrArg AV.bool ?_; rw [Bool.eq_iff_iff]; simp_all)
set_option maxHeartbeats 2000000 in
theorem ref17_Same (c d : Cell) (hc : smC c) (hd : smC d) : CallF Tryz.prog n_ref17_Same [eCell c, eCell d] (.bool (sameC c d)) := by
  have hcl := hc.1
  have hdl := hd.1
  have hS : sameC c d = (decide (c.any = d.any) && decide (c.neg = d.neg) && eqL sameT c.tests d.tests) := rfl
  rw [hS]
  clear hS
  by_cases hlen : c.tests.length = d.tests.length
  case neg =>
    rw [eqL_len hlen]
    simp only [eCell, eTests]
    refine CallF.of_nil (of_ref17_Same (by simp) ?_) (by simp)
    unfold b_ref17_Same WpR
    intro Q hQr hQn hQp
    repeat' first | refine go_ ?_ | refine br_ (fun hw => ?_) (fun hw => ?_) <;> try omega | fail
    all_goals first | (refine leafE ?_ rfl; simp; done) | exact ab_
  have hlen' : (c.tests.length : Int) = d.tests.length := by omega
  simp only [eCell, eTests]
  refine CallF.of_nil (of_ref17_Same (by simp) ?_) (by simp)
  unfold b_ref17_Same WpR
  intro Q hQr hQn hQp
  repeat' first | refine go_ ?_ | refine br_ (fun hw => ?_) (fun hw => ?_) <;> try omega | fail
  all_goals try (refine leafE ?_ rfl; refine congrArg AV.bool ?_; rw [Bool.eq_iff_iff]; simp_all; done)
  all_goals try (exfalso; omega)
  with_reducible refine loop_i [4, 5, 6, 7, 29, 30, 31, 32, 33, 34, 35, 36, 37, 38, 39, 40, 41, 42, 43, 44, 45, 46, 47, 48, 49, 50, 51, 52, 53, 54, 55, 56, 57, 58, 59, 60, 61, 62, 63, 64, 65, 66, 67, 68, 69, 70, 71, 72, 73, 74, 75, 76, 77, 78, 79, 80, 81, 82] (fun q : Nat × List AObj => [(5, I q.1)]) (fun q => .cells [.bool c.any, .bool c.neg, .lst false ES (c.tests.map eTest)] :: .cells [.bool d.any, .bool d.neg, .lst false ES (d.tests.map eTest)] :: q.2) (fun q => q.1 ≤ c.tests.length ∧ ∀ k, k < q.1 → sameT (c.tests.getD k default) (d.tests.getD k default) = true) (fun q => c.tests.length - q.1) (0, []) ?_ ?_ ?_ ?_
  · simp
  · rfl
  · exact at_
  rintro ⟨i, τ⟩ r ⟨h1, h2⟩
  dsimp only at h1 h2
  by_cases hi : i < c.tests.length
  · have hi' : i < d.tests.length := by omega
    have ta := hc.2 _ (getD_mem hi)
    have tb := hd.2 _ (getD_mem hi')
    have hne : sameT (c.tests.getD i default) (d.tests.getD i default) = false → eqL sameT c.tests d.tests = false := fun h => eqL_at hi h hi'
    have hbs := fun he => before_succ h2 (i := i) he
    obtain ⟨a, haq⟩ : ∃ t, c.tests.getD i default = t := ⟨_, rfl⟩
    obtain ⟨b, hbq⟩ : ∃ t, d.tests.getD i default = t := ⟨_, rfl⟩
    rw [haq] at ta hne hbs
    rw [hbq] at tb hne hbs
    have s1 := ref14_Same a.a b.a ta.1 tb.1
    have s2 := ref14_Same a.b b.b ta.2 tb.2
    simp only [sameT] at hne hbs
    generalize sameS a.a b.a = v1 at *
    generalize sameS a.b b.b = v2 at *
    rw [eExpr_eq, eExpr_eq] at s1 s2
    repeat' first | simp (disch := omega) only [go_sem, hQr, hQn, hQp, wrapK_i64, wrapK_u8, wrapK_u64, Nat.reduceAdd, Nat.reduceBEq, ↓reduceIte, haq, hbq] | refine go_ ?_ | refine cf_ s1 ?_ | refine cf_ s2 ?_ | refine br_ (fun hw => ?_) (fun hw => ?_) <;> try omega | fail
    all_goals first
      | (refine leafE ?_ rfl; rw [hne (by clear hne hbs; simp_all)]; simp; done)
      | (refine ⟨(i + 1, τ ++ [.cells [I a.kind, I a.a.op, I a.a.v.kind, I a.a.v.n, .str a.a.v.s, .str a.a.s, .lst false EX (a.a.l.map eExpr), I a.b.op, I a.b.v.kind, I a.b.v.n, .str a.b.v.s, .str a.b.s, .lst false EX (a.b.l.map eExpr), .bool a.lo, .bool a.hi]] ++ [.cells [I b.kind, I b.a.op, I b.a.v.kind, I b.a.v.n, .str b.a.v.s, .str b.a.s, .lst false EX (b.a.l.map eExpr), I b.b.op, I b.b.v.kind, I b.b.v.n, .str b.b.v.s, .str b.b.s, .lst false EX (b.b.l.map eExpr), .bool b.lo, .bool b.hi]]), ?_, ?_, ?_, ou_, at_⟩ <;> (try dsimp only)
         · exact ⟨by omega, hbs (by clear hne hbs; simp_all)⟩
         · omega
         all_goals (first | rfl | (simp [go_sem]; done)))
      | exact ab_
  · repeat' first | refine go_ ?_ | refine br_ (fun hw => ?_) (fun hw => ?_) <;> try omega | fail
    refine leafE ?_ rfl
    rw [eqL_non hlen (fun k hk => h2 k (by omega))]
    simp_all
end Go.Proofs.YthkhdedadacakaaGreatDoor
namespace Go.Proofs
open Go.Shelf
def Tryz.lays156_ren : Go.Shelf.Ren := ⟨fun | 156 => 62 | 165 => 109 | 166 => 110 | 169 => 67 | 240 => 153 | 241 => 154 | 276 => 182 | 277 => 183 | n => n, fun | 31 => 47 | 9 => 9 | 3 => 3 | 4 => 4 | 0 => 0 | 20 => 20 | 72 => 126 | 76 => 175 | 70 => 123 | 37 => 124 | 75 => 174 | 127 => 186 | 164 => 239 | 5 => 5 | 80 => 131 | n => n, fun | n => n⟩
theorem Tryz.lays156 : Go.Proofs.Lays.n156 Tryz.prog Tryz.lays156_ren := {
  mixed := by kernel_rfl
  f156 := Tryz.func62.trans (congrArg some (by kernel_rfl))
  f165 := Tryz.func109.trans (congrArg some (by kernel_rfl))
  f166 := Tryz.func110.trans (congrArg some (by kernel_rfl))
  f169 := Tryz.func67.trans (congrArg some (by kernel_rfl))
  f240 := Tryz.func153.trans (congrArg some (by kernel_rfl))
  f241 := Tryz.func154.trans (congrArg some (by kernel_rfl))
  f276 := Tryz.func182.trans (congrArg some (by kernel_rfl))
  f277 := Tryz.func183.trans (congrArg some (by kernel_rfl))
  t0 := Tryz.underlying0
  a0 := Tryz.isAgg0
  z0 := Tryz.sizeOf0
  v0 := Tryz.zeroValue0
  t3 := Tryz.underlying3
  a3 := Tryz.isAgg3
  z3 := Tryz.sizeOf3
  v3 := Tryz.zeroValue3
  t4 := Tryz.underlying4
  a4 := Tryz.isAgg4
  z4 := Tryz.sizeOf4
  v4 := Tryz.zeroValue4
  t9 := Tryz.underlying9
  a9 := Tryz.isAgg9
  z9 := Tryz.sizeOf9
  v9 := Tryz.zeroValue9
  t20 := Tryz.underlying20
  a20 := Tryz.isAgg20
  z20 := Tryz.sizeOf20
  v20 := Tryz.zeroValue20
  t31 := Tryz.underlying47
  a31 := Tryz.isAgg47
  z31 := Tryz.sizeOf47
  v31 := Tryz.zeroValue47
  t37 := Tryz.underlying124
  a37 := Tryz.isAgg124
  z37 := Tryz.sizeOf124
  v37 := Tryz.zeroValue124
  t70 := Tryz.underlying123
  a70 := Tryz.isAgg123
  z70 := Tryz.sizeOf123
  v70 := Tryz.zeroValue123
  t72 := Tryz.underlying126
  a72 := Tryz.isAgg126
  z72 := Tryz.sizeOf126
  v72 := Tryz.zeroValue126
  t75 := Tryz.underlying174
  a75 := Tryz.isAgg174
  z75 := Tryz.sizeOf174
  v75 := Tryz.zeroValue174
  t76 := Tryz.underlying175
  a76 := Tryz.isAgg175
  z76 := Tryz.sizeOf175
  v76 := Tryz.zeroValue175
  t127 := Tryz.underlying186
  a127 := Tryz.isAgg186
  z127 := Tryz.sizeOf186
  v127 := Tryz.zeroValue186
  t164 := Tryz.underlying239
  a164 := Tryz.isAgg239
  z164 := Tryz.sizeOf239
  v164 := Tryz.zeroValue239 }
theorem Tryz.Builder_Extra_156 : Builder.Extra Tryz.prog Tryz.lays156_ren := {
  sizeBuilder := by kernel_rfl
  liesBuilder := by kernel_rfl
  t5 := Tryz.underlying5
  a5 := Tryz.isAgg5
  z5 := Tryz.sizeOf5
  v5 := Tryz.zeroValue5
  infoByte := by kernel_rfl
  cellsByte := by kernel_rfl
  sizeByte := by kernel_rfl
  neB5 := by decide }
open Go.RowKit in
theorem Tryz.strings_Join_none (a : Option Addr) (c : Nat) (sep : ByteArray) (w : World) :
    Calls Tryz.prog 62 #[.slice a 0 c, .string sep] w fun e w' => e = .returned (.string ⟨#[]⟩) ∧ w' = w := Any.strings_Join_none Tryz.lays156 Tryz.Builder_Extra_156 a c sep w
open Go.RowKit in
theorem Tryz.strings_Join (bk o c : Nat) (xs : List ByteArray) (sep : ByteArray) (w : World) (hcells : ∀ (j : Nat) x, xs[j]? = some x → w.cell? ⟨bk, o + j, none⟩ = some (.string x)) (hbk : bk < w.heap.size) (hN : xs.length ≤ 140737488355328) (hcap : xs.length ≤ c) (hlen : (Lib.join (xs.map (·.data.toList)) sep.data.toList).length ≤ 140737488355328) :
    Calls Tryz.prog 62 #[.slice (some ⟨bk, o, none⟩) xs.length c, .string sep] w fun e w' => e = .returned (.string ⟨(Lib.join (xs.map (·.data.toList)) sep.data.toList).toArray⟩) ∧ Below w.heap.size w w' := Any.strings_Join Tryz.lays156 Tryz.Builder_Extra_156 bk o c xs sep w hcells hbk hN hcap hlen
def Tryz.lays121_ren : Go.Shelf.Ren := ⟨fun | 121 => 159 | 214 => 186 | n => n, fun | 4 => 4 | 9 => 9 | n => n, fun | n => n⟩
theorem Tryz.lays121 : Go.Proofs.Lays.n121 Tryz.prog Tryz.lays121_ren := {
  mixed := by kernel_rfl
  f121 := Tryz.func159.trans (congrArg some (by kernel_rfl))
  f214 := Tryz.func186.trans (congrArg some (by kernel_rfl))
  t4 := Tryz.underlying4
  a4 := Tryz.isAgg4
  z4 := Tryz.sizeOf4
  v4 := Tryz.zeroValue4
  t9 := Tryz.underlying9
  a9 := Tryz.isAgg9
  z9 := Tryz.sizeOf9
  v9 := Tryz.zeroValue9 }
open Go.RowKit in
theorem Tryz.strconv_FormatBool (b : Bool) (w : World) :
    Calls Tryz.prog 159 #[.bool b] w fun e w' => e = .returned (.string ⟨(Lib.formatBool b).toArray⟩) ∧ w' = w := Any.strconv_FormatBool Tryz.lays121 b w
def Tryz.laysM171_ren : Go.Shelf.Ren := ⟨fun | 171 => 157 | 243 => 184 | 246 => 199 | 283 => 209 | 284 => 210 | 285 => 211 | 286 => 212 | 129 => 216 | 317 => 215 | 318 => 217 | 319 => 218 | 320 => 219 | 337 => 220 | 338 => 221 | n => n, fun | 3 => 3 | 9 => 9 | 2 => 2 | 4 => 4 | 171 => 253 | 0 => 0 | 53 => 254 | 37 => 124 | 5 => 5 | 173 => 257 | 212 => 262 | 51 => 259 | 20 => 20 | 213 => 263 | 46 => 46 | 232 => 267 | 233 => 268 | n => n, fun | 17 => 1 | 18 => 2 | 19 => 3 | n => n⟩
theorem Tryz.laysM171 : Go.Proofs.LaysM.n171 Tryz.prog Tryz.laysM171_ren := {
  mixed := by kernel_rfl
  f129 := Tryz.func216.trans (congrArg some (by kernel_rfl))
  f171 := Tryz.func157.trans (congrArg some (by kernel_rfl))
  f243 := Tryz.func184.trans (congrArg some (by kernel_rfl))
  f246 := Tryz.func199.trans (congrArg some (by kernel_rfl))
  f283 := Tryz.func209.trans (congrArg some (by kernel_rfl))
  f284 := Tryz.func210.trans (congrArg some (by kernel_rfl))
  f285 := Tryz.func211.trans (congrArg some (by kernel_rfl))
  f286 := Tryz.func212.trans (congrArg some (by kernel_rfl))
  f317 := Tryz.func215.trans (congrArg some (by kernel_rfl))
  f318 := Tryz.func217.trans (congrArg some (by kernel_rfl))
  f319 := Tryz.func218.trans (congrArg some (by kernel_rfl))
  f320 := Tryz.func219.trans (congrArg some (by kernel_rfl))
  f337 := Tryz.func220.trans (congrArg some (by kernel_rfl))
  f338 := Tryz.func221.trans (congrArg some (by kernel_rfl))
  t0 := Tryz.underlying0
  a0 := Tryz.isAgg0
  z0 := Tryz.sizeOf0
  v0 := Tryz.zeroValue0
  t2 := Tryz.underlying2
  a2 := Tryz.isAgg2
  z2 := Tryz.sizeOf2
  v2 := Tryz.zeroValue2
  t3 := Tryz.underlying3
  a3 := Tryz.isAgg3
  z3 := Tryz.sizeOf3
  v3 := Tryz.zeroValue3
  t4 := Tryz.underlying4
  a4 := Tryz.isAgg4
  z4 := Tryz.sizeOf4
  v4 := Tryz.zeroValue4
  t5 := Tryz.underlying5
  a5 := Tryz.isAgg5
  z5 := Tryz.sizeOf5
  v5 := Tryz.zeroValue5
  t9 := Tryz.underlying9
  a9 := Tryz.isAgg9
  z9 := Tryz.sizeOf9
  v9 := Tryz.zeroValue9
  t20 := Tryz.underlying20
  a20 := Tryz.isAgg20
  z20 := Tryz.sizeOf20
  v20 := Tryz.zeroValue20
  t37 := Tryz.underlying124
  a37 := Tryz.isAgg124
  z37 := Tryz.sizeOf124
  v37 := Tryz.zeroValue124
  t46 := Tryz.underlying46
  a46 := Tryz.isAgg46
  z46 := Tryz.sizeOf46
  v46 := Tryz.zeroValue46
  t51 := Tryz.underlying259
  a51 := Tryz.isAgg259
  z51 := Tryz.sizeOf259
  v51 := Tryz.zeroValue259
  t53 := Tryz.underlying254
  a53 := Tryz.isAgg254
  z53 := Tryz.sizeOf254
  v53 := Tryz.zeroValue254
  t171 := Tryz.underlying253
  a171 := Tryz.isAgg253
  z171 := Tryz.sizeOf253
  v171 := Tryz.zeroValue253
  t173 := Tryz.underlying257
  a173 := Tryz.isAgg257
  z173 := Tryz.sizeOf257
  v173 := Tryz.zeroValue257
  t212 := Tryz.underlying262
  a212 := Tryz.isAgg262
  z212 := Tryz.sizeOf262
  v212 := Tryz.zeroValue262
  t213 := Tryz.underlying263
  a213 := Tryz.isAgg263
  z213 := Tryz.sizeOf263
  t232 := Tryz.underlying267
  a232 := Tryz.isAgg267
  z232 := Tryz.sizeOf267
  v232 := Tryz.zeroValue267
  t233 := Tryz.underlying268
  a233 := Tryz.isAgg268
  z233 := Tryz.sizeOf268
  v233 := Tryz.zeroValue268
  g17 := by kernel_rfl
  g18 := by kernel_rfl
  g19 := by kernel_rfl
  i0 := by kernel_rfl
  i2 := by kernel_rfl
  i3 := by kernel_rfl
  i4 := by kernel_rfl
  i5 := by kernel_rfl
  i9 := by kernel_rfl
  i20 := by kernel_rfl
  i37 := by kernel_rfl
  i46 := by kernel_rfl
  i51 := by kernel_rfl
  i53 := by kernel_rfl
  i171 := by kernel_rfl
  i173 := by kernel_rfl
  i212 := by kernel_rfl
  i232 := by kernel_rfl
  i233 := by kernel_rfl
  m17 := by kernel_rfl
  m18 := by kernel_rfl
  m19 := by kernel_rfl }
open Go.RowKit Go.Sort Go.Lib in
theorem Tryz.strconv_Itoa (n : Int) (h0 : -9223372036854775808 ≤ n) (h1 : n ≤ 9223372036854775807) (w : World) (htab : Lib.TabIs Tryz.prog w "internal/strconv.uint64pow10" .u64 Lib.pow10Tab) :
    Calls Tryz.prog 157 #[.int .i64 n] w fun e w' => e = .returned (.string ⟨(Lib.itoa n).toArray⟩) ∧ ∃ k os, w' = grow (w.drewN k) os := Any.strconv_Itoa Tryz.laysM171 n h0 h1 w htab
end Go.Proofs
namespace Go.Proofs.YthkhdedadacakaaGreatDoor
open Go.AM
set_option maxRecDepth 4000
theorem CallF_of_calls {P : Program} {f : FuncId} {args : List AV} {r : AV} (hf : Has P f)
    (h : ∀ (g : Ghost) (w : World) (σ : Store) (vs : Array Value), Rel g w σ → args.length = vs.size → (∀ i, i < args.length → VR g w (args.getD i .undef) (vs.getD i Go.undef)) →
      ∃ v, (∀ g' w', VR g' w' r v) ∧ Calls P f vs w fun e w' => e = .returned v ∧ w'.os = w.os ∧ w'.tape = w.tape ∧ w'.output = w.output ∧ w.heap.size ≤ w'.heap.size ∧ ∀ b, b < w.heap.size → w'.heap[b]? = w.heap[b]?) : CallF P f args r := by
  intro σ
  refine ⟨hf, fun g w vs hR hl hv => ?_⟩
  obtain ⟨v, h1, h2⟩ := h g w σ vs hR hl hv
  refine h2.mono ?_
  rintro e w' ⟨rfl, k1, k2, k3, k4, k5⟩
  obtain ⟨r1, r2⟩ := hR.addNew k4 k1 k2 k3 k5
  exact ⟨.ret r, _, σ, r1, r2, h1 _ _, rfl, rfl⟩
theorem VR.str_l {g : Ghost} {w : World} (s : Str) : VR g w (.str s) (.string ⟨s.toArray⟩) := VR.str s
theorem array1 {vs : Array Value} (h : 1 = vs.size) : vs = #[vs.getD 0 Go.undef] := by
  apply Array.ext
  · simp [← h]
  · intro i h1 h2
    simp at h2
    subst h2
    simp [← h]
theorem array2 {vs : Array Value} (h : 2 = vs.size) : vs = #[vs.getD 0 Go.undef, vs.getD 1 Go.undef] := by
  apply Array.ext
  · simp [← h]
  · intro i h1 h2
    simp at h2
    obtain rfl | rfl : i = 0 ∨ i = 1 := by omega
    · simp [← h]
    · simp [← h]
theorem strconv_Itoa (n : Int) (h0 : -9223372036854775808 ≤ n) (h1 : n ≤ 9223372036854775807) : CallF Tryz.prog n_strconv_Itoa [I n] (.str (Lib.itoa n)) := by
  refine CallF_of_calls ⟨_, Tryz.func157, by kernel_rfl, by kernel_rfl⟩ fun g w σ vs hR hl hv => ?_
  have h2 := hv 0 (by simp)
  rw [array1 hl]
  generalize vs.getD 0 Go.undef = v at h2
  simp only [List.getD_cons_zero] at h2
  cases h2
  refine ⟨_, fun g' w' => VR.str_l (Lib.itoa n), (Tryz.strconv_Itoa n h0 h1 w hR.glob.2).mono ?_⟩
  rintro e w' ⟨rfl, k, os, rfl⟩
  refine ⟨rfl, rfl, rfl, rfl, by simp [Sort.grow, World.drewN], fun b hb => ?_⟩
  simp only [Sort.grow, World.drewN]
  rw [Array.getElem?_append_left (by simpa using hb)]
theorem strconv_FormatBool (b : Bool) : CallF Tryz.prog n_strconv_FormatBool [.bool b] (.str (if b then trueS else falseS)) := by
  refine CallF_of_calls ⟨_, Tryz.func159, by kernel_rfl, by kernel_rfl⟩ fun g w σ vs hR hl hv => ?_
  have h2 := hv 0 (by simp)
  rw [array1 hl]
  generalize vs.getD 0 Go.undef = v at h2
  simp only [List.getD_cons_zero] at h2
  cases h2
  have e : Lib.formatBool b = if b then trueS else falseS := by cases b <;> decide
  refine ⟨_, fun g' w' => VR.str_l (if b then trueS else falseS), (Tryz.strconv_FormatBool b w).mono ?_⟩
  rintro e w' ⟨rfl, rfl⟩
  refine ⟨by rw [e], rfl, rfl, rfl, Nat.le_refl _, fun _ _ => rfl⟩
theorem strings_Join (l : List Str) (sep : Str) (hl : l.length ≤ 2 ^ 40) (hj : (Lib.join l sep).length ≤ 2 ^ 40) : CallF Tryz.prog n_strings_Join [eStrs l, .str sep] (.str (Lib.join l sep)) := by
  refine CallF_of_calls ⟨_, Tryz.func62, by kernel_rfl, by kernel_rfl⟩ fun g w σ vs hR hlen hv => ?_
  have h2 := hv 0 (by simp)
  have h3 := hv 1 (by simp)
  rw [array2 hlen]
  generalize vs.getD 0 Go.undef = v at h2
  generalize vs.getD 1 Go.undef = u at h3
  simp only [List.getD_cons_zero, List.getD_cons_succ] at h2 h3
  cases h3
  simp only [eStrs] at h2
  generalize hxs : l.map eStr = xs at h2
  have below : ∀ w' : World, RowKit.Below w.heap.size w w' → w'.os = w.os ∧ w'.tape = w.tape ∧ w'.output = w.output ∧ w.heap.size ≤ w'.heap.size ∧ ∀ b, b < w.heap.size → w'.heap[b]? = w.heap[b]? := fun w' h => ⟨h.os, h.tape, h.output, h.size, h.block⟩
  cases h2 with
  | lstE f el b cap hf =>
    obtain rfl : l = [] := by cases l <;> simp at hxs; rfl
    refine ⟨_, fun g' w' => VR.str_l (Lib.join [] sep), (Tryz.strings_Join_none b cap ⟨sep.toArray⟩ w).mono ?_⟩
    rintro e w' ⟨rfl, rfl⟩
    refine ⟨rfl, rfl, rfl, rfl, Nat.le_refl _, fun _ _ => rfl⟩
  | lst f el xs b off cap hi hf hx ft hc h =>
    subst hxs
    have hbl := hR.lt b hi
    have hm : (l.map fun s => (⟨s.toArray⟩ : ByteArray)).map (·.data.toList) = l := by
      rw [List.map_map]; conv => rhs; rw [← List.map_id l]
      rfl
    have hcells : ∀ (j : Nat) x, (l.map fun s => (⟨s.toArray⟩ : ByteArray))[j]? = some x → w.cell? ⟨b, off + j, none⟩ = some (.string x) := fun j x hx' => by
      obtain ⟨hj', rfl⟩ := List.getElem?_eq_some_iff.1 hx'
      have hjl : j < l.length := by simpa using hj'
      have c1 := hc j 0 (by simpa using hjl) (by decide)
      have c2 := h j 0 (by simpa using hjl) (by decide)
      have e1 : off + (j * (⟨false, 1⟩ : El).sz + 0) = off + j := by show off + (j * 1 + 0) = off + j; omega
      rw [e1] at c1 c2
      obtain ⟨v, hv⟩ := Option.isSome_iff_exists.1 c1
      have e2 : ((l.map eStr).getD j .undef).cell 0 = .str (l[j]) := by simp [hjl, eStr, AV.cell]
      rw [e2] at c2
      simp only [cellD, hv, Option.getD_some] at c2
      cases c2
      rw [hv]
      simp
    have := Tryz.strings_Join b off cap (l.map fun s => (⟨s.toArray⟩ : ByteArray)) ⟨sep.toArray⟩ w hcells hbl (by simp; omega) (by simpa using hx) (by rw [hm]; show (Lib.join l sep).length ≤ _; omega)
    rw [hm] at this
    simp only [List.length_map] at this ⊢
    refine ⟨_, fun g' w' => VR.str_l (Lib.join l sep), this.mono ?_⟩
    rintro e w' ⟨rfl, hb⟩
    exact ⟨rfl, below w' hb⟩
theorem decD_big {m : Nat} (h : 10 ≤ m) : Lib.decDigits m = Lib.decDigits (m / 10) ++ [UInt8.ofNat (48 + m % 10)] := by
  conv => lhs; rw [Lib.decDigits]
  rw [dif_neg (by omega)]
theorem decD_small {m : Nat} (h : m < 10) : Lib.decDigits m = [UInt8.ofNat (48 + m)] := by rw [Lib.decDigits, dif_pos h]
theorem decD_len (k : Nat) : ∀ u : Nat, u < 10 ^ (k + 1) → (Lib.decDigits u).length ≤ k + 1 := by
  induction k with
  | zero => intro u h; rw [decD_small (by omega)]; simp
  | succ k ih =>
    intro u h
    by_cases h9 : u < 10
    · rw [decD_small h9]; simp
    · rw [decD_big (by omega), List.length_append]
      have := ih (u / 10) (by rw [Nat.pow_succ] at h; omega)
      simp only [List.length_cons, List.length_nil]; omega
@[go_sem] theorem op_b2s_dig {P : Program} {f : Bool} {σ : Store} {K Kp : AV → Store → Prop} (k : Int) (h : 0 ≤ k) (h' : k ≤ 255) : opT P (.b2s (.c (.lst f ⟨false, 1⟩ [.int .u8 k]))) σ (.mk : Tg (K, Kp)) = K (.str [UInt8.ofNat k.toNat]) σ := by
  have : (UInt8.ofNat k.toNat).toNat = k.toNat := by rw [UInt8.toNat_ofNat']; omega
  have e : AV.int .u8 k = AV.int .u8 (UInt8.ofNat k.toNat).toNat := by rw [this]; congr 1; omega
  rw [e]
  exact op_b2s_one _
def quoteB (c : UInt8) : Str := if c.toNat = 34 ∨ c.toNat = 92 then [92, c] else [c]
def quoteS (s : Str) : Str := 34 :: (s.flatMap quoteB ++ [34])
theorem quote_take {s : Str} {i : Nat} (h : i < s.length) : (s.take (i + 1)).flatMap quoteB = (s.take i).flatMap quoteB ++ quoteB (s.getD i 0) := by
  rw [List.take_succ_eq_append_getElem h, List.flatMap_append]
  simp [h]
theorem quote_len (s : Str) : (s.flatMap quoteB).length ≤ 2 * s.length := by
  induction s with
  | nil => simp
  | cons c r ih =>
    rw [List.flatMap_cons, List.length_append, List.length_cons]
    have : (quoteB c).length ≤ 2 := by unfold quoteB; split <;> simp
    omega
def textV (v : Val) : Str := if v.kind = 1 then Lib.itoa v.n else if v.kind = 2 then quoteS v.s else if v.kind = 3 then (if v.n = 1 then trueS else falseS) else nullS
def ifSp : Str := [105, 102, 32]
def thenSp : Str := [32, 116, 104, 101, 110, 32]
def elseSp : Str := [32, 101, 108, 115, 101, 32]
def parenS (w : Int × Str) (lvl : Int) : Str := if w.1 < lvl then 40 :: (w.2 ++ [41]) else w.2
def joinX (op : Int) (v : Val) (s : Str) (ws : List (Int × Str)) : Str :=
  if op = 1 then textV v else if op = 2 then s
  else if op = 3 then 45 :: parenS (ws.getD 0 default) 6
  else if op = 16 then ifSp ++ parenS (ws.getD 0 default) 0 ++ thenSp ++ parenS (ws.getD 1 default) 0 ++ elseSp ++ parenS (ws.getD 2 default) 0
  else parenS (ws.getD 0 default) (if (findB op).level = 3 then 4 else (findB op).level) ++ [32] ++ (findB op).sign ++ [32] ++ parenS (ws.getD 1 default) ((findB op).level + 1)
mutual
def writeX : Expr → Str
  | .mk op v s l => joinX op v s (writeL l)
def writeL : List Expr → List (Int × Str)
  | [] => []
  | x :: r => (levelS x.op, writeX x) :: writeL r
end
def wrS (x : Expr) (lvl : Int) : Str := parenS (levelS x.op, writeX x) lvl
theorem itoa_len (n : Int) (h0 : -9223372036854775808 ≤ n) (h1 : n ≤ 9223372036854775807) : (Lib.itoa n).length ≤ 21 := by
  unfold Lib.itoa
  split
  · have := decD_len 19 n.natAbs (by omega)
    rw [List.length_cons]; omega
  · have := decD_len 19 n.toNat (by omega)
    omega
theorem textV_len (v : Val) (h0 : -9223372036854775808 ≤ v.n) (h1 : v.n ≤ 9223372036854775807) (hr : rightV v = true) : (textV v).length ≤ 82 := by
  unfold textV
  split
  · have := itoa_len v.n h0 h1; omega
  split
  · rename_i h1 h2
    unfold rightV at hr
    rw [if_neg (by omega), if_neg (by omega), if_pos h2] at hr
    simp only [plainS, Bool.and_eq_true, decide_eq_true_eq] at hr
    have := quote_len v.s
    simp only [quoteS, List.length_cons, List.length_append, List.length_nil]; omega
  split
  · split <;> simp [trueS, falseS]
  · simp [nullS]
theorem parenS_len (w : Int × Str) (lvl : Int) : (parenS w lvl).length ≤ w.2.length + 2 := by
  unfold parenS; split <;> simp
theorem sign_len (op : Int) : (findB op).sign.length ≤ 3 := by
  unfold findB
  cases h : binL.find? (fun b => b.op == op) with
  | none => simp
  | some b =>
    have := List.mem_of_find?_eq_some h
    simp only [binL, List.mem_cons, List.not_mem_nil, or_false] at this
    rcases this with rfl | rfl | rfl | rfl | rfl | rfl | rfl | rfl | rfl | rfl | rfl | rfl <;> simp
theorem right_parts {op : Int} {v : Val} {s : Str} {l : List Expr} (h : rightX (.mk op v s l) = true) :
    (op = 1 ∧ l = [] ∧ s = [] ∧ rightV v = true ∧ (v.kind ≠ 1 ∨ 0 ≤ v.n)) ∨ (op = 2 ∧ l = [] ∧ v = v0 ∧ nameS s = true) ∨ (op = 3 ∧ v = v0 ∧ s = [] ∧ ∃ a, l = [a] ∧ rightX a = true) ∨
    (op = 16 ∧ v = v0 ∧ s = [] ∧ ∃ a b c, l = [a, b, c] ∧ rightX a = true ∧ rightX b = true ∧ rightX c = true) ∨
    (4 ≤ op ∧ op ≤ 15 ∧ v = v0 ∧ s = [] ∧ 1 ≤ (findB op).level ∧ (findB op).level ≤ 5 ∧ levelS op = (findB op).level ∧ (findB op).op = op ∧ (findB op) ∈ binL ∧ ∃ a b, l = [a, b] ∧ rightX a = true ∧ rightX b = true) := by
  simp only [rightX, Bool.and_eq_true, decide_eq_true_eq] at h
  obtain ⟨h1, h2⟩ := h
  by_cases o1 : op = 1
  · left
    rw [if_pos o1] at h2
    simp only [Bool.and_eq_true, decide_eq_true_eq, Bool.or_eq_true] at h2
    have : countS op = 0 := by unfold countS; rw [if_pos (.inl o1)]
    exact ⟨o1, List.length_eq_zero_iff.1 (by omega), h2.1.1, h2.1.2, h2.2⟩
  rw [if_neg o1] at h2
  by_cases o2 : op = 2
  · right; left
    rw [if_pos o2] at h2
    simp only [Bool.and_eq_true, decide_eq_true_eq] at h2
    have : countS op = 0 := by unfold countS; rw [if_pos (.inr o2)]
    exact ⟨o2, List.length_eq_zero_iff.1 (by omega), h2.1, h2.2⟩
  rw [if_neg o2] at h2
  simp only [Bool.and_eq_true, decide_eq_true_eq] at h2
  obtain ⟨⟨h3, h4⟩, h5⟩ := h2
  by_cases o3 : op = 3
  · right; right; left
    have : countS op = 1 := by unfold countS; rw [if_neg (by omega), if_pos o3]
    match l, h1, h5 with
    | [a], _, h5 => simp only [rightL, Bool.and_true] at h5; exact ⟨o3, h3, h4, a, rfl, h5⟩
    | [], h1, _ => simp at h1; omega
    | _ :: _ :: _, h1, _ => simp at h1; omega
  by_cases o4 : op = 16
  · right; right; right; left
    have : countS op = 3 := by unfold countS; rw [if_neg (by omega), if_neg o3, if_pos o4]
    match l, h1, h5 with
    | [a, b, c], _, h5 => simp only [rightL, Bool.and_true, Bool.and_eq_true] at h5; exact ⟨o4, h3, h4, a, b, c, rfl, h5.1, h5.2.1, h5.2.2⟩
    | [], h1, _ => simp at h1; omega
    | [_], h1, _ => simp at h1; omega
    | [_, _], h1, _ => simp at h1; omega
    | _ :: _ :: _ :: _ :: _, h1, _ => simp at h1; omega
  · right; right; right; right
    have hc : countS op = if 0 < (findB op).level then 2 else -1 := by unfold countS; rw [if_neg (by omega), if_neg o3, if_neg o4]
    have hlv : 0 < (findB op).level := by
      by_cases h : 0 < (findB op).level
      · exact h
      · rw [if_neg h] at hc; omega
    rw [if_pos hlv] at hc
    have hlev : levelS op = (findB op).level := by unfold levelS; rw [if_neg o4, if_neg o3, if_neg (by omega)]
    have hf : (findB op).op = op ∧ findB op ∈ binL := by
      unfold findB at hlv ⊢
      cases hq : binL.find? (fun b => b.op == op) with
      | none => rw [hq] at hlv; simp at hlv
      | some b =>
        have h1 := List.find?_some hq
        exact ⟨by simpa using h1, List.mem_of_find?_eq_some hq⟩
    have hb : 4 ≤ op ∧ op ≤ 15 ∧ (findB op).level ≤ 5 := by
      obtain ⟨q1, q2⟩ := hf
      generalize findB op = b at q1 q2
      simp only [binL, List.mem_cons, List.not_mem_nil, or_false] at q2
      rcases q2 with rfl | rfl | rfl | rfl | rfl | rfl | rfl | rfl | rfl | rfl | rfl | rfl <;> (dsimp only at q1 ⊢; omega)
    match l, h1, h5 with
    | [a, b], _, h5 => simp only [rightL, Bool.and_true, Bool.and_eq_true] at h5; exact ⟨hb.1, hb.2.1, h3, h4, by omega, hb.2.2, hlev, hf.1, hf.2, a, b, rfl, h5.1, h5.2⟩
    | [], h1, _ => simp at h1; omega
    | [_], h1, _ => simp at h1; omega
    | _ :: _ :: _ :: _, h1, _ => simp at h1; omega
theorem levelS_nonneg {x : Expr} (h : rightX x = true) : 0 ≤ levelS x.op := by
  obtain ⟨op, v, s, l⟩ := x
  rcases right_parts h with ⟨rfl, _⟩ | ⟨rfl, _⟩ | ⟨rfl, _⟩ | ⟨rfl, _⟩ | ⟨_, _, _, _, h1, _, h2, _⟩
  · show 0 ≤ levelS 1; decide
  · show 0 ≤ levelS 2; decide
  · show 0 ≤ levelS 3; decide
  · show 0 ≤ levelS 16; decide
  · show 0 ≤ levelS op; omega
theorem wr_of_ge {x : Expr} {lv : Int} (h : ¬ levelS x.op < lv) : wrS x lv = writeX x := by unfold wrS parenS; exact if_neg h
theorem wr_of_lt {x : Expr} {lv : Int} (h : levelS x.op < lv) : wrS x lv = 40 :: (writeX x ++ [41]) := by unfold wrS parenS; exact if_pos h
theorem nameS_len {s : Str} (h : nameS s = true) : s.length ≤ 16 := by
  simp only [nameS, Bool.and_eq_true, decide_eq_true_eq] at h; exact h.1.2
theorem writeX_len (x : Expr) : rightX x = true → okX x → (writeX x).length ≤ 110 * szS x := by
  induction x using Expr.ind with
  | h op v s l ih =>
    intro hr hx
    simp only [okX] at hx
    obtain ⟨_, _, hv1, hv2, hl⟩ := hx
    have key : ∀ y ∈ l, rightX y = true → ∀ lvl, (parenS (levelS y.op, writeX y) lvl).length ≤ 110 * szS y + 2 := fun y hy hry lvl => by
      have := ih y hy hry (okL_mem hl hy)
      have := parenS_len (levelS y.op, writeX y) lvl
      dsimp only at this
      omega
    have hsg := sign_len op
    rcases right_parts hr with ⟨rfl, rfl, rfl, h1, _⟩ | ⟨rfl, rfl, rfl, h1⟩ | ⟨rfl, rfl, rfl, a, rfl, ha⟩ | ⟨rfl, rfl, rfl, a, b, c, rfl, ha, hb, hc⟩ | ⟨o1, o2, rfl, rfl, _, _, _, _, _, a, b, rfl, ha, hb⟩
    · have := textV_len v hv1 hv2 h1
      simp only [writeX, joinX, if_true, szS]; omega
    · have := nameS_len h1
      simp [writeX, joinX, szS]; omega
    · have := key a (by simp) ha 6
      simp [writeX, writeL, joinX, szS, szL]; omega
    · have k1 := key a (by simp) ha 0
      have k2 := key b (by simp) hb 0
      have k3 := key c (by simp) hc 0
      simp [writeX, writeL, joinX, szS, szL, ifSp, thenSp, elseSp]; omega
    · have k1 := key a (by simp) ha (if (findB op).level = 3 then 4 else (findB op).level)
      have k2 := key b (by simp) hb ((findB op).level + 1)
      have : writeX (.mk op v0 [] [a, b]) = parenS (levelS a.op, writeX a) (if (findB op).level = 3 then 4 else (findB op).level) ++ [32] ++ (findB op).sign ++ [32] ++ parenS (levelS b.op, writeX b) ((findB op).level + 1) := by
        simp only [writeX, writeL, joinX]
        rw [if_neg (by omega), if_neg (by omega), if_neg (by omega), if_neg (by omega)]
        rfl
      rw [this]
      simp only [List.length_append, List.length_cons, List.length_nil, szS, szL]
      omega
def bigX (x : Expr) : Bool := decide (200 < (writeX x).length)
def textX (x : Expr) : Str × Int := if rightX x = false then ([], 2) else if 12 < deepS x then ([], 12) else if bigX x = true then ([], 5) else (writeX x, 0)
theorem wrS_zero {x : Expr} (hr : rightX x = true) : wrS x 0 = writeX x := by
  have := levelS_nonneg hr
  exact wr_of_ge (by omega)
end Go.Proofs.YthkhdedadacakaaGreatDoor
