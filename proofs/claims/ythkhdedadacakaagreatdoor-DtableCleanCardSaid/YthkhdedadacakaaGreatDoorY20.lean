/- Part of a proof: see Root. -/
import Derived.Test.YthkhdedadacakaaGreatDoorY19
set_option linter.unnecessarySimpa false
set_option linter.unusedSimpArgs false
set_option linter.unusedVariables false
namespace Go.Proofs.YthkhdedadacakaaGreatDoor
open Go.AM
set_option maxRecDepth 4000
structure TS where
  t : Test
  p : Nat
  bad : Bool
deriving Inhabited
def oneK (k : Int) (r : RS) : TS := ⟨⟨k, r.x, x0, false, false⟩, r.p, r.bad⟩
def inR1 (T : List Tok) (p : Nat) : RS := exprR T (p + 1) false
def inR2 (T : List Tok) (p : Nat) : RS := mustR T (inR1 T p) 4 [46, 46]
def inR3 (T : List Tok) (p : Nat) : RS := exprR T (inR2 T p).p (inR2 T p).bad
def inH (T : List Tok) (p : Nat) : Bool := onT T (inR3 T p).p (inR3 T p).bad 4 [91]
def inR4 (T : List Tok) (p : Nat) : RS := if inH T p then ⟨x0, (inR3 T p).p + 1, (inR3 T p).bad⟩ else mustR T (inR3 T p) 4 [93]
def inR (T : List Tok) (p : Nat) (lo : Bool) : TS := ⟨⟨6, (inR1 T p).x, (inR3 T p).x, lo, inH T p⟩, (inR4 T p).p, (inR4 T p).bad⟩
def testS (T : List Tok) (p : Nat) (b : Bool) : TS :=
  if onT T p b 4 [60] then oneK 2 (exprR T (p + 1) b)
  else if onT T p b 4 [60, 61] then oneK 3 (exprR T (p + 1) b)
  else if onT T p b 4 [62] then oneK 4 (exprR T (p + 1) b)
  else if onT T p b 4 [62, 61] then oneK 5 (exprR T (p + 1) b)
  else if onT T p b 4 [91] then inR T p false
  else if onT T p b 4 [93] then inR T p true
  else oneK 1 (exprR T p b)
theorem signK_ne {k : Int} (h : 2 ≤ k) (h' : k ≤ 5) : signK k ≠ [] := by
  rcases (by omega : k = 2 ∨ k = 3 ∨ k = 4 ∨ k = 5) with rfl | rfl | rfl | rfl <;> decide
theorem testS_sign {T : List Tok} {p : Nat} {b : Bool} {k : Int} (h : 2 ≤ k) (h' : k ≤ 5) (hb : ∀ j : Int, 2 ≤ j → j < k → onT T p b 4 (signK j) = false) (ho : onT T p b 4 (signK k) = true) : testS T p b = oneK k (exprR T (p + 1) b) := by
  have e2 : signK 2 = [60] := rfl
  have e3 : signK 3 = [60, 61] := rfl
  have e4 : signK 4 = [62] := rfl
  have e5 : signK 5 = [62, 61] := rfl
  unfold testS
  rcases (by omega : k = 2 ∨ k = 3 ∨ k = 4 ∨ k = 5) with rfl | rfl | rfl | rfl
  · rw [e2] at ho; rw [if_pos ho]
  · have h2 := hb 2 (by omega) (by omega)
    rw [e2] at h2; rw [e3] at ho; rw [if_neg (by simp [h2]), if_pos ho]
  · have h2 := hb 2 (by omega) (by omega)
    have h3 := hb 3 (by omega) (by omega)
    rw [e2] at h2; rw [e3] at h3; rw [e4] at ho; rw [if_neg (by simp [h2]), if_neg (by simp [h3]), if_pos ho]
  · have h2 := hb 2 (by omega) (by omega)
    have h3 := hb 3 (by omega) (by omega)
    have h4 := hb 4 (by omega) (by omega)
    rw [e2] at h2; rw [e3] at h3; rw [e4] at h4; rw [e5] at ho; rw [if_neg (by simp [h2]), if_neg (by simp [h3]), if_neg (by simp [h4]), if_pos ho]
theorem testS_rest {T : List Tok} {p : Nat} {b : Bool} (hb : ∀ j : Int, 2 ≤ j → j < 6 → onT T p b 4 (signK j) = false) : testS T p b = if onT T p b 4 [91] then inR T p false else if onT T p b 4 [93] then inR T p true else oneK 1 (exprR T p b) := by
  have h2 : onT T p b 4 [60] = false := hb 2 (by omega) (by omega)
  have h3 : onT T p b 4 [60, 61] = false := hb 3 (by omega) (by omega)
  have h4 : onT T p b 4 [62] = false := hb 4 (by omega) (by omega)
  have h5 : onT T p b 4 [62, 61] = false := hb 5 (by omega) (by omega)
  unfold testS
  rw [if_neg (by simp [h2]), if_neg (by simp [h3]), if_neg (by simp [h4]), if_neg (by simp [h5])]
theorem goes_oneK {T : List Tok} {p : Nat} {r : RS} (k : Int) (h : Goes T.length p r) : p ≤ (oneK k r).p ∧ (oneK k r).p ≤ T.length := ⟨h.1, h.2.1⟩
theorem goes_in {T : List Tok} {p : Nat} (hp : p < T.length) : (inR1 T p).p ≤ T.length ∧ (inR2 T p).p ≤ T.length ∧ (inR3 T p).p ≤ T.length ∧ (inR4 T p).p ≤ T.length ∧ p ≤ (inR4 T p).p := by
  have g1 : Goes T.length (p + 1) (inR1 T p) := goes_expr T hp
  have g2 : Goes T.length (p + 1) (inR2 T p) := goes_must _ _ g1
  have g3 : Goes T.length (inR2 T p).p (inR3 T p) := goes_expr T g2.2.1
  have g4 : (inR4 T p).p ≤ T.length ∧ (inR3 T p).p ≤ (inR4 T p).p := by
    unfold inR4
    split
    · rename_i h
      exact ⟨(onT_lt h).1, Nat.le_succ _⟩
    · have := goes_must 4 [93] g3
      refine ⟨this.2.1, ?_⟩
      simp only [mustR, onP]; split <;> omega
  have := g1.1; have := g2.1; have := g3.1
  have m2 : (inR1 T p).p ≤ (inR2 T p).p := by simp only [inR2, mustR, onP]; split <;> omega
  exact ⟨g1.2.1, g2.2.1, g3.2.1, g4.1, by omega⟩
theorem goes_test {T : List Tok} {p : Nat} {b : Bool} (hp : p ≤ T.length) : p ≤ (testS T p b).p ∧ (testS T p b).p ≤ T.length := by
  have st : ∀ k s, onT T p b 4 s = true → p ≤ (oneK k (exprR T (p + 1) b)).p ∧ (oneK k (exprR T (p + 1) b)).p ≤ T.length := fun k s h => by
    have := goes_expr T (q := p + 1) (b := b) (onT_lt h).1
    exact ⟨Nat.le_of_succ_le this.1, this.2.1⟩
  unfold testS
  split
  · rename_i h; exact st _ _ h
  split
  · rename_i h; exact st _ _ h
  split
  · rename_i h; exact st _ _ h
  split
  · rename_i h; exact st _ _ h
  split
  · rename_i h; have := goes_in (onT_lt h).1; exact ⟨this.2.2.2.2, this.2.2.2.1⟩
  split
  · rename_i h; have := goes_in (onT_lt h).1; exact ⟨this.2.2.2.2, this.2.2.2.1⟩
  · exact goes_oneK 1 (goes_expr T hp)
theorem cell_on_is (T : List Tok) (p : Nat) (b : Bool) (s : Str) (o : Bool) (hs : s ≠ []) (hp : p ≤ 2 ^ 61) (h : onT T p b 4 s = o) : CallM Tryz.prog n_cell_reader_on 0 [.str s] (eRd T p b) (eRd T (if o then p + 1 else p) b) (.bool o) := by
  have := cell_on T p b s hs hp
  unfold onP at this
  rw [h] at this
  exact this
theorem viewT1 {σ : Store} {k : Int} {r : Expr} : View σ (.agg [I k, I r.op, I r.v.kind, I r.v.n, .str r.v.s, .str r.s, .lst false EX (r.l.map eExpr), I 0, I 0, I 0, .str [], .str [], .nils, .bool false, .bool false]) (eTest ⟨k, r, x0, false, false⟩) := by
  simp only [eTest, eExprs]
  refine View.agg' (.cons (.refl _ rfl) (.cons (.refl _ rfl) (.cons (.refl _ rfl) (.cons (.refl _ rfl) (.cons (.refl _ rfl) (.cons (.refl _ rfl) (.cons (.refl _ ?_) (.cons (.refl _ rfl) (.cons (.refl _ rfl) (.cons (.refl _ rfl) (.cons (.refl _ rfl) (.cons (.refl _ rfl) (.cons (.nils _) (.cons (.refl _ rfl) (.cons (.refl _ rfl) (.nil _))))))))))))))))
  simp
theorem cell_test (T : List Tok) (p : Nat) (b : Bool) (hp : p ≤ T.length) (hT : T.length ≤ 2 ^ 50) (hs : ∀ q, (T.getD q default).s.length ≤ 2 ^ 62) :
    CallM Tryz.prog n_cell_reader_test 0 [] (eRd T p b) (eRd T (testS T p b).p (testS T p b).bad) (eTest (testS T p b).t) := by
  generalize hR : testS T p b = R
  generalize hE : eTest R.t = E
  refine CallM.of_one (of_cell_reader_test (by simp) ?_) rfl (purL_rd _ _ _)
  unfold b_cell_reader_test WpR
  intro Q hQr hQn hQp
  repeat' first | refine go_ ?_ | refine br_ (fun hw => ?_) (fun hw => ?_) <;> try omega | fail
  with_reducible refine loop_i [3, 5, 6, 7, 8, 9, 10, 11, 12, 13, 14, 15, 16] (fun k : Int => [(3, I k)]) (fun _ => [.cells [.lst false ET (T.map eTok), I p, .bool b], .cells [I 0, I 0, I 0, I 0, .str [], .str [], .nils, I 0, I 0, I 0, .str [], .str [], .nils, .bool false, .bool false]]) (fun k => 2 ≤ k ∧ k ≤ 6 ∧ ∀ j : Int, 2 ≤ j → j < k → onT T p b 4 (signK j) = false) (fun k => (6 - k).toNat) (2) ?_ ?_ ?_ ?_
  · exact ⟨by omega, by omega, fun j h1 h2 => by omega⟩
  · rfl
  · exact at_
  rintro k r ⟨h1, h2, h3⟩
  by_cases hk : k ≤ 5
  · have hgo := cell_sign k
    obtain ⟨o, ho⟩ : ∃ o, onT T p b 4 (signK k) = o := ⟨_, rfl⟩
    have hon := cell_on_is T p b (signK k) o (signK_ne h1 hk) (by omega) ho
    cases o with
    | false =>
      simp only [eRd, Bool.false_eq_true, if_false] at hon
      repeat' first | refine go_ ?_ | refine cf_ hgo ?_ | refine cm_ hon ?_ | refine br_ (fun hw => ?_) (fun hw => ?_) <;> try omega | fail
      refine ⟨k + 1, ?_, ?_, by first | rfl | (simp [go_sem]; done), ou_, at_⟩ <;> (try dsimp only)
      · refine ⟨by omega, by omega, fun j hj1 hj2 => ?_⟩
        by_cases hjk : j = k
        · subst hjk; exact ho
        · exact h3 j hj1 (by omega)
      · omega
    | true =>
      have hpl := onT_lt ho
      have hce := cell_expr T (p + 1) b hT hs
      rw [testS_sign h1 hk h3 ho] at hR
      subst hR
      simp only [oneK] at hE hQr hQn hQp
      generalize exprR T (p + 1) b = x at *
      rw [eExpr_eq] at hce
      simp only [eRd, if_true, Int.natCast_add, Int.cast_ofNat_Int] at hon hce
      repeat' first | simp (disch := omega) only [go_sem, hQr, hQn, hQp, wrapK_i64, wrapK_u8, wrapK_u64, Nat.reduceAdd, Nat.reduceBEq, ↓reduceIte, Int.natCast_add, Int.cast_ofNat_Int] | refine go_ ?_ | refine cf_ hgo ?_ | refine cm_ hon ?_ | refine cm_ hce ?_ | refine br_ (fun hw => ?_) (fun hw => ?_) <;> try omega | fail
      exact leafS (by rw [← hE]; exact viewT1) (ViewL.refl (purL_rd _ _ _))
  · obtain rfl : k = 6 := by omega
    rw [testS_rest (fun j hj1 hj2 => h3 j hj1 hj2)] at hR
    have hmk := cell_mark T p b
    obtain ⟨o1, ho1⟩ : ∃ o, onT T p b 4 [91] = o := ⟨_, rfl⟩
    obtain ⟨o2, ho2⟩ : ∃ o, onT T p b 4 [93] = o := ⟨_, rfl⟩
    have hon1 := cell_on_is T p b [91] o1 (by decide) (by omega) ho1
    have hon2 := cell_on_is T p b [93] o2 (by decide) (by omega) ho2
    have hmo := onT_mark T p b [93] (by decide)
    rw [ho1, ho2] at hR
    rw [ho2] at hmo
    have hm1 := onT_mark T p b [91] (by decide)
    rw [ho1] at hm1
    generalize hmt : markT T p = mt at *
    by_cases hin : o1 = true ∨ o2 = true
    · have hpl : p < T.length ∧ b = false := by
        rcases hin with h | h
        · exact onT_lt (ho1.trans h)
        · exact onT_lt (ho2.trans h)
      obtain ⟨hpl, rfl⟩ := hpl
      have hR2 : R = inR T p (decide (mt = [93])) := by
        rw [← hR]
        simp only [Bool.not_false, Bool.true_and] at hmo hm1
        cases o1 with
        | true =>
          have : mt = [91] := by simpa using hm1.symm
          rw [if_pos rfl, this]; rfl
        | false =>
          rcases hin with h | h
          · cases h
          · subst h
            have : mt = [93] := by simpa using hmo.symm
            rw [if_neg (by simp), if_pos rfl, this]; rfl
      clear hR
      subst hR2
      obtain ⟨g1, g2, g3, g4, _⟩ := goes_in (T := T) hpl
      have c1 := cell_expr T (p + 1) false hT hs
      have c2 := cell_must T (inR1 T p).p (inR1 T p).bad [46, 46] (by decide) (by omega)
      have c3 := cell_expr T (inR2 T p).p (inR2 T p).bad hT hs
      obtain ⟨o3, ho3⟩ : ∃ o, inH T p = o := ⟨_, rfl⟩
      have c4 := cell_on_is T (inR3 T p).p (inR3 T p).bad [91] o3 (by decide) (by omega) ho3
      have c5 := cell_must T (inR3 T p).p (inR3 T p).bad [93] (by decide) (by omega)
      change CallM _ _ _ _ _ (eRd T (inR1 T p).p (inR1 T p).bad) (eExpr (inR1 T p).x) at c1
      change CallM _ _ _ _ _ (eRd T (inR2 T p).p (inR2 T p).bad) _ at c2
      change CallM _ _ _ _ _ (eRd T (inR3 T p).p (inR3 T p).bad) (eExpr (inR3 T p).x) at c3
      change CallM _ _ _ _ _ (eRd T (mustR T (inR3 T p) 4 [93]).p (mustR T (inR3 T p) 4 [93]).bad) _ at c5
      have hr4 : inR4 T p = if o3 then ⟨x0, (inR3 T p).p + 1, (inR3 T p).bad⟩ else mustR T (inR3 T p) 4 [93] := by rw [← ho3]; rfl
      have hin' : inR T p (decide (mt = [93])) = ⟨⟨6, (inR1 T p).x, (inR3 T p).x, decide (mt = [93]), o3⟩, (inR4 T p).p, (inR4 T p).bad⟩ := by rw [← ho3]; rfl
      rw [hin'] at hE hQr hQn hQp
      rw [hr4] at hQr hQn hQp
      clear hr4 hin' ho3 ho1 ho2 g1 g2 g4
      generalize mustR T (inR3 T p) 4 [93] = r5 at *
      generalize inR1 T p = r1 at *
      generalize inR2 T p = r2 at *
      generalize inR3 T p = r3 at *
      rw [eExpr_eq] at c1 c3
      simp only [eTest, eExprs] at hE
      simp only [eRd] at hmk
      have fin : ∀ σ : Store, View σ (.agg [I 6, I r1.x.op, I r1.x.v.kind, I r1.x.v.n, .str r1.x.v.s, .str r1.x.s, .lst false EX (r1.x.l.map eExpr), I r3.x.op, I r3.x.v.kind, I r3.x.v.n, .str r3.x.v.s, .str r3.x.s, .lst false EX (r3.x.l.map eExpr), .bool (mt == [93]), .bool o3]) E := fun σ => by
        rw [← hE, show decide (mt = [93]) = (mt == [93]) from by rw [Bool.eq_iff_iff]; simp]; exact View.eqv rfl (by simp)
      clear hE
      have hne : mt == [93] ↔ mt = [93] := by simp
      cases o1 with
      | true =>
        simp only [eRd, if_true, Int.natCast_add, Int.cast_ofNat_Int] at hon1 c1 c2 c3 c4 c5
        cases o3 with
        | true =>
          simp only [if_true] at c4 fin hQr hQn hQp
          repeat' first | simp (disch := omega) only [go_sem, hQr, hQn, hQp, wrapK_i64, wrapK_u8, wrapK_u64, Nat.reduceAdd, Nat.reduceBEq, ↓reduceIte, Int.natCast_add, Int.cast_ofNat_Int] | refine go_ ?_ | refine cm_ hmk ?_ | refine cm_ hon1 ?_ | refine cm_ c1 ?_ | refine cm_ c2 ?_ | refine cm_ c3 ?_ | refine cm_ c4 ?_ | refine br_ (fun hw => ?_) (fun hw => ?_) <;> try omega | fail
          exact leafS (fin _) (ViewL.eqv (by simp [eRd]) (purL_rd _ _ _))
        | false =>
          simp only [Bool.false_eq_true, if_false] at c4 fin hQr hQn hQp
          repeat' first | simp (disch := omega) only [go_sem, hQr, hQn, hQp, wrapK_i64, wrapK_u8, wrapK_u64, Nat.reduceAdd, Nat.reduceBEq, ↓reduceIte, Int.natCast_add, Int.cast_ofNat_Int] | refine go_ ?_ | refine cm_ hmk ?_ | refine cm_ hon1 ?_ | refine cm_ c1 ?_ | refine cm_ c2 ?_ | refine cm_ c3 ?_ | refine cm_ c4 ?_ | refine cm_ c5 ?_ | refine br_ (fun hw => ?_) (fun hw => ?_) <;> try omega | fail
          exact leafS (fin _) (ViewL.eqv (by simp [eRd]) (purL_rd _ _ _))
      | false =>
        have ho2t : o2 = true := by rcases hin with h | h <;> first | (cases h; done) | exact h
        subst ho2t
        simp only [eRd, if_true, Bool.false_eq_true, if_false, Int.natCast_add, Int.cast_ofNat_Int] at hon1 hon2 c1 c2 c3 c4 c5
        cases o3 with
        | true =>
          simp only [if_true] at c4 fin hQr hQn hQp
          repeat' first | simp (disch := omega) only [go_sem, hQr, hQn, hQp, wrapK_i64, wrapK_u8, wrapK_u64, Nat.reduceAdd, Nat.reduceBEq, ↓reduceIte, Int.natCast_add, Int.cast_ofNat_Int] | refine go_ ?_ | refine cm_ hmk ?_ | refine cm_ hon1 ?_ | refine cm_ hon2 ?_ | refine cm_ c1 ?_ | refine cm_ c2 ?_ | refine cm_ c3 ?_ | refine cm_ c4 ?_ | refine br_ (fun hw => ?_) (fun hw => ?_) <;> try omega | fail
          exact leafS (fin _) (ViewL.eqv (by simp [eRd]) (purL_rd _ _ _))
        | false =>
          simp only [Bool.false_eq_true, if_false] at c4 fin hQr hQn hQp
          repeat' first | simp (disch := omega) only [go_sem, hQr, hQn, hQp, wrapK_i64, wrapK_u8, wrapK_u64, Nat.reduceAdd, Nat.reduceBEq, ↓reduceIte, Int.natCast_add, Int.cast_ofNat_Int] | refine go_ ?_ | refine cm_ hmk ?_ | refine cm_ hon1 ?_ | refine cm_ hon2 ?_ | refine cm_ c1 ?_ | refine cm_ c2 ?_ | refine cm_ c3 ?_ | refine cm_ c4 ?_ | refine cm_ c5 ?_ | refine br_ (fun hw => ?_) (fun hw => ?_) <;> try omega | fail
          exact leafS (fin _) (ViewL.eqv (by simp [eRd]) (purL_rd _ _ _))
    · obtain ⟨rfl, rfl⟩ : o1 = false ∧ o2 = false := ⟨by cases o1 with | false => rfl | true => exact absurd (.inl rfl) hin, by cases o2 with | false => rfl | true => exact absurd (.inr rfl) hin⟩
      simp only [Bool.false_eq_true, if_false] at hR
      subst hR
      have c1 := cell_expr T p b hT hs
      simp only [oneK] at hE hQr hQn hQp
      generalize exprR T p b = x at *
      rw [eExpr_eq] at c1
      simp only [eRd, Bool.false_eq_true, if_false] at hon1 hon2 c1 hmk
      repeat' first | refine go_ ?_ | refine cm_ hmk ?_ | refine cm_ hon1 ?_ | refine cm_ hon2 ?_ | refine cm_ c1 ?_ | refine br_ (fun hw => ?_) (fun hw => ?_) <;> try omega | fail
      exact leafS (by rw [← hE]; exact viewT1) (ViewL.refl (purL_rd _ _ _))
def notS : Str := [110, 111, 116]
def notT (T : List Tok) : Bool := decide (1 < T.length) && (isT T 0 1 notS && isT T 1 4 [40])
theorem cell_not (T : List Tok) : CallF Tryz.prog n_cell_not [eToks T] (.bool (notT T)) := by
  refine CallF.of_nil (of_cell_not (by simp) ?_) (by simp)
  unfold b_cell_not WpR
  intro Q hQr hQn hQp
  repeat' first | refine go_ ?_ | refine br_ (fun hw => ?_) (fun hw => ?_) <;> try omega | fail
  all_goals (refine leafE ?_ rfl; refine congrArg AV.bool ?_; rw [Bool.eq_iff_iff]; simp_all [notT, isT, notS])
  all_goals (try omega)
  all_goals (exact ⟨fun h => ⟨by omega, by omega, by omega, h⟩, fun h => h.2.2.2⟩)
structure CS where
  ts : List Test
  p : Nat
  bad : Bool
deriving Inhabited
def testsF (T : List Tok) : Nat → List Test → Nat → Bool → CS
  | 0, acc, p, b => ⟨acc, p, b⟩
  | f + 1, acc, p, b => if onT T (testS T p b).p (testS T p b).bad 4 [44] then testsF T f (acc ++ [(testS T p b).t]) ((testS T p b).p + 1) (testS T p b).bad else ⟨acc ++ [(testS T p b).t], (testS T p b).p, (testS T p b).bad⟩
theorem testsF_succ (T : List Tok) (f : Nat) (acc : List Test) (p : Nat) (b : Bool) : testsF T (f + 1) acc p b = if onT T (testS T p b).p (testS T p b).bad 4 [44] then testsF T f (acc ++ [(testS T p b).t]) ((testS T p b).p + 1) (testS T p b).bad else ⟨acc ++ [(testS T p b).t], (testS T p b).p, (testS T p b).bad⟩ := rfl
theorem goes_tests {T : List Tok} (f : Nat) : ∀ (acc : List Test) (p : Nat) (b : Bool), p ≤ T.length → (testsF T f acc p b).p ≤ T.length := by
  induction f with
  | zero => intro acc p b hp; exact hp
  | succ f ih =>
    intro acc p b hp
    rw [testsF_succ]
    split
    · rename_i h; exact ih _ _ _ (onT_lt h).1
    · exact (goes_test hp).2
def endC (T : List Tok) (n : Bool) (c : CS) : CS := if n then ⟨c.ts, onP T c.p c.bad 4 [41], c.bad || !(onT T c.p c.bad 4 [41])⟩ else c
def p0C (T : List Tok) : Nat := if notT T then 2 else 0
def cellR (T : List Tok) : CS := endC T (notT T) (testsF T (T.length + 1) [] (p0C T) false)
theorem p0C_le (T : List Tok) : p0C T ≤ T.length := by
  unfold p0C
  split
  · rename_i h; simp only [notT, Bool.and_eq_true, decide_eq_true_eq] at h; omega
  · exact Nat.zero_le _
def stC (T : List Tok) (n : Bool) (p : Nat) (b : Bool) : List Test → Store
  | [] => [.cells (eRd T p b), .cells [.bool false, .bool false, .nils], .cells [.bool false, .bool n, .nils]]
  | t :: acc => [.cells (eRd T p b), .cells [.bool false, .bool false, .nils], .cells [.bool false, .bool n, .own ES 3 (acc.length + 1) 0 (acc.length + 1)], .vec ES (eTest t :: acc.map eTest)]
structure Lc where
  acc : List Test
  p : Nat
  b : Bool
  f : Nat
theorem stC_nil (T : List Tok) (n : Bool) (p : Nat) (b : Bool) : stC T n p b [] = [.cells [.lst false ET (T.map eTok), I p, .bool b], .cells [.bool false, .bool false, .nils], .cells [.bool false, .bool n, .nils]] := rfl
theorem stC_cons (T : List Tok) (n : Bool) (p : Nat) (b : Bool) (t : Test) (acc : List Test) : stC T n p b (t :: acc) = [.cells [.lst false ET (T.map eTok), I p, .bool b], .cells [.bool false, .bool false, .nils], .cells [.bool false, .bool n, .own ES 3 (acc.length + 1) 0 (acc.length + 1)], .vec ES (eTest t :: acc.map eTest)] := rfl
theorem stC_snoc (T : List Tok) (n : Bool) (p : Nat) (b : Bool) (acc : List Test) (t : Test) : stC T n p b (acc ++ [t]) = [.cells (eRd T p b), .cells [.bool false, .bool false, .nils], .cells [.bool false, .bool n, .own ES 3 (acc.length + 1) 0 (acc.length + 1)], .vec ES (acc.map eTest ++ [eTest t])] := by
  cases acc with
  | nil => rfl
  | cons x acc => simp [stC]
theorem view_cell {σ : Store} {n : Bool} {ts : List Test} {k : Nat} (hk : k = ts.length) (h : σ[3]? = some (.vec ES (ts.map eTest))) : View σ (.agg [.bool false, .bool n, .own ES 3 k 0 k]) (eCell ⟨false, n, ts⟩) := by
  subst hk
  exact View.agg' (.cons (.refl _ rfl) (.cons (.refl _ rfl) (.cons (View.vec h (by simp) (by simp) (purL_test _)) (.nil _))))
set_option maxHeartbeats 2000000 in
theorem cell_cell (T : List Tok) (hT : T.length ≤ 2 ^ 30) (hs : ∀ q, (T.getD q default).s.length ≤ 2 ^ 62) :
    CallM Tryz.prog n_cell_reader_cell 0 [] (eRd T 0 false) (eRd T (cellR T).p (cellR T).bad) (eCell ⟨false, notT T, (cellR T).ts⟩) := by
  have hn := cell_not T
  have hp0 := p0C_le T
  have e0 : p0C T = if notT T then 2 else 0 := rfl
  generalize hR : cellR T = R
  unfold cellR at hR
  generalize notT T = n at *
  generalize hE : eCell _ = E
  simp only [eToks] at hn
  have fin : ∀ (σ : Store) (k : Nat) (ts : List Test), R.ts = ts → k = ts.length → σ[3]? = some (.vec ES (ts.map eTest)) → View σ (.agg [.bool false, .bool n, .own ES 3 k 0 k]) E := fun σ k ts h1 h2 h3 => by
    rw [← hE, h1]; exact view_cell h2 h3
  clear hE
  refine CallM.of_one (of_cell_reader_cell (by simp) ?_) rfl (purL_rd _ _ _)
  unfold b_cell_reader_cell WpR
  intro Q hQr hQn hQp
  cases n
  all_goals
    simp only [Bool.false_eq_true, if_false, if_true] at e0
    rw [e0] at hR hp0
    repeat' first | refine go_ ?_ | refine cf_ hn ?_ | refine br_ (fun hw => ?_) (fun hw => ?_) <;> try omega | fail
    with_reducible refine loop_i [17, 18, 19, 20, 21, 22, 23, 24, 25, 26] (fun x : Lc => ([] : List (Nat × AV))) (fun x => stC T _ x.p x.b x.acc) (fun x => x.p ≤ T.length ∧ x.acc.length + x.f = T.length + 1 ∧ T.length + 1 ≤ x.f + x.p ∧ endC T _ (testsF T x.f x.acc x.p x.b) = R) (fun x => x.f) ⟨[], _, false, T.length + 1⟩ ⟨?_, ?_, ?_, hR⟩ rfl ?_ ?_
    · dsimp only; omega
    · dsimp only; simp
    · dsimp only; omega
    · exact at_
    rintro ⟨acc, p, b, f⟩ r ⟨h1, h2, h3, h4⟩
    dsimp only at h1 h2 h3 h4
    obtain ⟨f, rfl⟩ : ∃ g, f = g + 1 := ⟨f - 1, by omega⟩
    rw [testsF_succ] at h4
    have ct := cell_test T p b h1 (by omega) hs
    have gt := goes_test (T := T) (b := b) h1
    generalize testS T p b = x at *
    obtain ⟨xt, xp, xb⟩ := x
    dsimp only at ct gt h4
    obtain ⟨o, ho⟩ : ∃ o, onT T xp xb 4 [44] = o := ⟨_, rfl⟩
    have con := cell_on_is T xp xb [44] o (by decide) (by omega) ho
    have hsn := fun n' p' b' => stC_snoc T n' p' b' acc xt
    simp only [eTest, eExprs] at ct
    rw [ho] at h4
    cases o with
    | true =>
      have hlt := (onT_lt ho).1
      rw [if_pos rfl] at h4
      simp only [eRd, if_true, Int.natCast_add, Int.cast_ofNat_Int] at ct con
      cases acc with
      | nil =>
        simp only [List.length_nil] at h2
        rw [stC_nil T _ p b]
        repeat' first | simp (disch := omega) only [go_sem, hQr, hQn, hQp, wrapK_i64, wrapK_u8, wrapK_u64, Nat.reduceAdd, Nat.reduceBEq, ↓reduceIte, Int.natCast_add, Int.cast_ofNat_Int] | refine go_ ?_ | refine cm_ ct ?_ | refine cm_ con ?_ | refine br_ (fun hw => ?_) (fun hw => ?_) <;> try omega | fail
        refine ⟨⟨[xt], xp + 1, xb, f⟩, ?_, ?_, ?_, ou_, at_⟩ <;> (try dsimp only)
        · exact ⟨by omega, by simp only [List.length_cons, List.length_nil]; omega, by omega, h4⟩
        · omega
        · rfl
      | cons t0 acc =>
        simp only [List.length_cons] at h2
        rw [stC_cons T _ p b]
        repeat' first | simp (disch := omega) only [go_sem, hQr, hQn, hQp, wrapK_i64, wrapK_u8, wrapK_u64, Nat.reduceAdd, Nat.reduceBEq, ↓reduceIte, Int.natCast_add, Int.cast_ofNat_Int] | refine go_ ?_ | refine cm_ ct ?_ | refine cm_ con ?_ | refine br_ (fun hw => ?_) (fun hw => ?_) <;> try omega | fail
        refine ⟨⟨t0 :: acc ++ [xt], xp + 1, xb, f⟩, ?_, ?_, ?_, ou_, at_⟩ <;> (try dsimp only)
        · exact ⟨by omega, by simp only [List.length_cons, List.length_append, List.length_nil]; omega, by omega, h4⟩
        · omega
        · rw [hsn]; simp [eRd, eTest, eExprs]
    | false =>
      rw [if_neg (by simp)] at h4
      simp only [eRd, Bool.false_eq_true, if_false] at ct con
      have cm := cell_must T xp xb [41] (by decide) (by omega)
      simp only [endC, Bool.false_eq_true, if_false, if_true] at h4
      subst h4
      dsimp only at fin hQr hQn hQp cm
      generalize onP T xp xb 4 [41] = p9 at *
      generalize (xb || !(onT T xp xb 4 [41])) = b9 at *
      simp only [eRd] at cm
      cases acc with
      | nil =>
        simp only [List.length_nil] at h2
        rw [stC_nil T _ p b]
        repeat' first | refine go_ ?_ | refine cm_ ct ?_ | refine cm_ con ?_ | refine cm_ cm ?_ | refine br_ (fun hw => ?_) (fun hw => ?_) <;> try omega | fail
        exact leafS (fin _ _ _ rfl rfl rfl) (ViewL.eqv rfl (purL_rd _ _ _))
      | cons t0 acc =>
        simp only [List.length_cons] at h2
        rw [stC_cons T _ p b]
        repeat' first | refine go_ ?_ | refine cm_ ct ?_ | refine cm_ con ?_ | refine cm_ cm ?_ | refine br_ (fun hw => ?_) (fun hw => ?_) <;> try omega | fail
        exact leafS (fin _ _ _ rfl (by simp) (by simp [eTest, eExprs])) (ViewL.eqv rfl (purL_rd _ _ _))
def okTs (T : List Tok) : Prop := ∀ q, (T.getD q default).s.length ≤ 2 ^ 62 ∧ -9223372036854775808 ≤ (T.getD q default).n ∧ (T.getD q default).n ≤ 9223372036854775807
theorem okX_x0 : okX x0 := by simp [x0, okX, okL, v0]
theorem okX_mk {op : Int} {l : List Expr} (h : okL l) : okX (.mk op v0 [] l) := by simp [okX, v0, h]
theorem ok_rdB {rd : Nat → Nat → RS} {l q : Nat} {b : Bool} (h : ∀ l q, okX (rd l q).x) : okX (rdB rd l q b).x := by
  unfold rdB
  split
  · exact okX_x0
  · exact h _ _
theorem wordS_ok {s : Str} {v : Val} (h : wordS s = some v) : v.s = [] ∧ 0 ≤ v.n ∧ v.n ≤ 1 := by
  unfold wordS at h
  split at h
  · cases h; exact ⟨rfl, by decide, by decide⟩
  split at h
  · cases h; exact ⟨rfl, by decide, by decide⟩
  split at h
  · cases h; exact ⟨rfl, by decide, by decide⟩
  · cases h
theorem ok_atom {T : List Tok} (hT : okTs T) {rd : Nat → Nat → RS} (h : ∀ l q, okX (rd l q).x) (p : Nat) : okX (atomW rd T p).x := by
  have hp := hT p
  unfold atomW
  split
  · exact h 0 (p + 1)
  split
  · simp [valR, okX, okL]; exact hp.2
  split
  · simp [valR, okX, okL]; exact hp.1
  split
  · split
    · rename_i v hv
      have := wordS_ok hv
      simp [valR, okX, okL, this.1]; omega
    · split
      · simp [okX, okL, v0]; exact hp.1
      · exact okX_x0
  · exact okX_x0
theorem ok_rd {T : List Tok} (hT : okTs T) (f : Nat) : ∀ (m : Option Expr) (lvl p : Nat), (∀ x, m = some x → okX x) → okX (rdF T f m lvl p).x := by
  induction f with
  | zero => intro m lvl p _; exact okX_x0
  | succ f ih =>
    intro m lvl p hm
    have h : ∀ l q, okX (rdF T f none l q).x := fun l q => ih none l q (fun x hx => by cases hx)
    cases m with
    | none =>
      simp only [rdF]
      split
      · split
        · exact okX_mk ⟨h _ _, ok_rdB (rd := fun l q => rdF T f none l q) h, ok_rdB (rd := fun l q => rdF T f none l q) h, trivial⟩
        · exact h _ _
      split
      · exact okX_mk ⟨h _ _, trivial⟩
      split
      · exact ok_atom hT h p
      split
      · exact h _ _
      · exact ih _ _ _ (fun x hx => by cases hx; exact h _ _)
    | some x =>
      simp only [rdF]
      split
      · exact hm x rfl
      · split
        · exact okX_mk ⟨hm x rfl, h _ _, trivial⟩
        · exact ih _ _ _ (fun y hy => by cases hy; exact okX_mk ⟨hm x rfl, h _ _, trivial⟩)
theorem ok_readT {T : List Tok} (hT : okTs T) (fr lvl : Int) : okX (readT T fr lvl).1 := by
  unfold readT
  split
  · exact okX_x0
  split
  · exact okX_x0
  · exact ok_rd hT _ _ _ _ (fun x hx => by cases hx)
theorem numF_range (s : Str) : (∀ c ∈ s, digitB c = true) → ∀ v : Int, 0 ≤ v → v ≤ 9223372036854775807 → ∀ n, numF s v = some n → 0 ≤ n ∧ n ≤ 9223372036854775807 := by
  induction s with
  | nil => intro _ v h1 h2 n h; simp only [numF] at h; cases h; exact ⟨h1, h2⟩
  | cons c r ih =>
    intro hd v h1 h2 n h
    have hc := hd c (by simp)
    simp only [digitB, Bool.and_eq_true, decide_eq_true_eq] at hc
    simp only [numF] at h
    split at h
    · cases h
    · exact ih (fun c hc => hd c (List.mem_cons_of_mem _ hc)) _ (by omega) (by omega) n h
theorem takeWhile_all {p : UInt8 → Bool} (s : Str) : ∀ c ∈ s.takeWhile p, p c = true := by
  induction s with
  | nil => intro c h; cases h
  | cons x r ih =>
    intro c h
    rw [List.takeWhile_cons] at h
    split at h
    · rename_i hx
      rcases List.mem_cons.1 h with rfl | h
      · exact hx
      · exact ih c h
    · cases h
theorem oneP_n (s : Str) : 0 ≤ (oneP s).n ∧ (oneP s).n ≤ 9223372036854775807 := by
  have e : ∀ k, 0 ≤ (PR.err k).n ∧ (PR.err k).n ≤ 9223372036854775807 := fun k => by simp [PR.err]
  unfold oneP
  simp only
  split
  · unfold nameP; split
    · exact e _
    · exact ⟨by simp, by simp⟩
  split
  · unfold numberP
    simp only
    split
    · exact e _
    · split
      · exact e _
      · rename_i v hv
        exact numF_range _ (takeWhile_all s) 0 (by omega) (by omega) v hv
  split
  · have : ∀ (r b : Str) (i : Nat), 0 ≤ (textF r b i).n ∧ (textF r b i).n ≤ 9223372036854775807 := fun r b i => by
      fun_induction textF r b i <;> first | exact e _ | assumption | exact ⟨by simp, by simp⟩
    exact this _ _ _
  · unfold markP; split
    · exact ⟨by simp, by simp⟩
    · exact e _
theorem lexF_n (f : Nat) : ∀ (s : Str) (pos : Nat) (acc : List Tok), (∀ t ∈ acc, 0 ≤ t.n ∧ t.n ≤ 9223372036854775807) → ∀ t ∈ (lexF f s pos acc).1, 0 ≤ t.n ∧ t.n ≤ 9223372036854775807 := by
  induction f with
  | zero => intro s pos acc h; exact h
  | succ f ih =>
    intro s pos acc h
    cases s with
    | nil => exact h
    | cons c r =>
      rw [lexF_cons]
      split
      · exact ih r (pos + 1) acc h
      · split
        · refine ih _ _ _ (fun t ht => ?_)
          rcases List.mem_append.1 ht with ht | ht
          · exact h t ht
          · simp only [List.mem_cons, List.not_mem_nil, or_false] at ht; subst ht; exact oneP_n _
        · intro t ht; cases ht
theorem lexS_ok (s : Str) : okTs (lexS s).1 := by
  intro q
  have h1 := (lexS_facts s).2 q
  have h2 : ∀ t ∈ (lexS s).1, 0 ≤ t.n ∧ t.n ≤ 9223372036854775807 := by
    unfold lexS
    split
    · intro t ht; cases ht
    · exact lexF_n _ _ _ _ (fun t ht => by cases ht)
  refine ⟨by omega, ?_⟩
  by_cases hq : q < (lexS s).1.length
  · have := h2 _ (getD_mem hq); omega
  · rw [getD_out (by omega)]; decide
theorem exprR_ok {T : List Tok} (hT : okTs T) (p : Nat) (b : Bool) : okX (exprR T p b).x ∧ szS (exprR T p b).x ≤ 1 + 4 * T.length := by
  unfold exprR rdB
  split
  · exact ⟨okX_x0, by simp [x0, szS, szL]⟩
  · exact ⟨ok_readT hT _ _, readT_sz T _ _⟩
theorem testS_ok {T : List Tok} (hT : okTs T) (hl : T.length ≤ 2 ^ 50) (p : Nat) (b : Bool) : okT (testS T p b).t := by
  have hx : ∀ p b, okX (exprR T p b).x ∧ szS (exprR T p b).x ≤ 2 ^ 60 := fun p b => ⟨(exprR_ok hT p b).1, by have := (exprR_ok hT p b).2; omega⟩
  have h0 : okX x0 ∧ szS x0 ≤ 2 ^ 60 := ⟨okX_x0, szS_x0⟩
  have h1 : ∀ k p b, okT (oneK k (exprR T p b)).t := fun k p b => ⟨hx p b, h0⟩
  have h2 : ∀ lo, okT (inR T p lo).t := fun lo => ⟨hx _ _, hx _ _⟩
  unfold testS
  split
  · exact h1 _ _ _
  split
  · exact h1 _ _ _
  split
  · exact h1 _ _ _
  split
  · exact h1 _ _ _
  split
  · exact h2 _
  split
  · exact h2 _
  · exact h1 _ _ _
theorem tests_ok {T : List Tok} (hT : okTs T) (hl : T.length ≤ 2 ^ 50) (f : Nat) : ∀ (acc : List Test) (p : Nat) (b : Bool), (∀ t ∈ acc, okT t) → (∀ t ∈ (testsF T f acc p b).ts, okT t) ∧ (testsF T f acc p b).ts.length ≤ acc.length + f := by
  induction f with
  | zero => intro acc p b h; exact ⟨h, Nat.le_refl _⟩
  | succ f ih =>
    intro acc p b h
    have h2 : ∀ t ∈ acc ++ [(testS T p b).t], okT t := fun t ht => by
      rcases List.mem_append.1 ht with ht | ht
      · exact h t ht
      · simp only [List.mem_cons, List.not_mem_nil, or_false] at ht; subst ht; exact testS_ok hT hl p b
    rw [testsF_succ]
    split
    · have := ih _ ((testS T p b).p + 1) (testS T p b).bad h2
      rw [List.length_append, List.length_cons, List.length_nil] at this
      exact ⟨this.1, by omega⟩
    · exact ⟨h2, by rw [List.length_append, List.length_cons, List.length_nil]; omega⟩
theorem endC_ts (T : List Tok) (n : Bool) (c : CS) : (endC T n c).ts = c.ts := by unfold endC; split <;> rfl
theorem cellR_ok {T : List Tok} (hT : okTs T) (hl : T.length ≤ 2 ^ 50) : okC ⟨false, notT T, (cellR T).ts⟩ := by
  have := tests_ok hT hl (T.length + 1) [] (p0C T) false (fun t ht => by cases ht)
  unfold cellR okC
  rw [endC_ts]
  exact ⟨by have := this.2; simp only [List.length_nil] at this; dsimp only; omega, this.1⟩
theorem endC_p {T : List Tok} {n : Bool} {c : CS} (h : c.p ≤ T.length) : (endC T n c).p ≤ T.length := by
  unfold endC
  split
  · dsimp only [onP]
    split
    · rename_i h; exact (onT_lt h).1
    · exact h
  · exact h
theorem cellR_p (T : List Tok) : (cellR T).p ≤ T.length := endC_p (goes_tests _ _ _ _ (p0C_le T))
def c0 : Cell := ⟨false, false, []⟩
def cAny : Cell := ⟨true, false, []⟩
def parseC (s : Str) : Cell × Int × Int :=
  if (lexS s).2.2 ≠ 0 then (c0, (lexS s).2.1, (lexS s).2.2)
  else if (lexS s).1.length = 1 ∧ onT (lexS s).1 0 false 4 [45] = true then (cAny, 0, 0)
  else if (cellR (lexS s).1).p < (lexS s).1.length then (c0, ((lexS s).1.getD (cellR (lexS s).1).p default).pos, 11)
  else if (cellR (lexS s).1).bad = true then (c0, s.length, 11)
  else if 12 < (cellR (lexS s).1).ts.length then (c0, 0, 24)
  else if rightC ⟨false, notT (lexS s).1, (cellR (lexS s).1).ts⟩ = false then (c0, 0, 12)
  else (⟨false, notT (lexS s).1, (cellR (lexS s).1).ts⟩, 0, 0)
def eC3 (r : Cell × Int × Int) : AV := .tup [eCell r.1, I r.2.1, I r.2.2]
theorem parseC_ok (s : Str) : okC (parseC s).1 := by
  have h := cellR_ok (lexS_ok s) (by have := (lexS_facts s).1; omega)
  have h0 : okC c0 := ⟨Nat.zero_le _, fun t ht => by cases ht⟩
  have h1 : okC cAny := ⟨Nat.zero_le _, fun t ht => by cases ht⟩
  unfold parseC
  repeat' split
  all_goals first | exact h0 | exact h1 | exact h
theorem view_c0 {σ : Store} : View σ (.agg [.bool false, .bool false, .nils]) (eCell c0) := View.agg' (.cons (.refl _ rfl) (.cons (.refl _ rfl) (.cons (.nils _) (.nil _))))
theorem view_cAny {σ : Store} : View σ (.agg [.bool true, .bool false, .nils]) (eCell cAny) := View.agg' (.cons (.refl _ rfl) (.cons (.refl _ rfl) (.cons (.nils _) (.nil _))))
theorem isDash (T : List Tok) (p : Nat) : onT T p false 4 [45] = (markT T p == [45]) := by
  rw [onT_mark T p false [45] (by decide), Bool.eq_iff_iff]; simp
set_option maxHeartbeats 1000000 in
theorem cell_Parse (s : Str) (hs : s.length ≤ 2 ^ 30) : CallF Tryz.prog n_cell_Parse [.str s] (eC3 (parseC s)) := by
  have cl := lex_Lex s hs
  obtain ⟨f1, f2⟩ := lexS_facts s
  have cm := cell_mark (lexS s).1 0 false
  have cr := cell_cell (lexS s).1 (by omega) (fun q => by have := f2 q; omega)
  have hok := cellR_ok (lexS_ok s) (by omega)
  have cc := cell_Check _ hok
  have hp1 := cellR_p (lexS s).1
  have hd := isDash (lexS s).1 0
  have hP : parseC s = if (lexS s).2.2 ≠ 0 then (c0, (lexS s).2.1, (lexS s).2.2)
    else if (lexS s).1.length = 1 ∧ onT (lexS s).1 0 false 4 [45] = true then (cAny, 0, 0)
    else if (cellR (lexS s).1).p < (lexS s).1.length then (c0, ((lexS s).1.getD (cellR (lexS s).1).p default).pos, 11)
    else if (cellR (lexS s).1).bad = true then (c0, (s.length : Int), 11)
    else if 12 < (cellR (lexS s).1).ts.length then (c0, 0, 24)
    else if rightC ⟨false, notT (lexS s).1, (cellR (lexS s).1).ts⟩ = false then (c0, 0, 12)
    else (⟨false, notT (lexS s).1, (cellR (lexS s).1).ts⟩, 0, 0) := rfl
  rw [hP, hd]
  clear hP f2 hd hok
  generalize rightC ⟨false, notT (lexS s).1, (cellR (lexS s).1).ts⟩ = rb at *
  generalize cellR (lexS s).1 = r at *
  generalize markT (lexS s).1 0 = mt at *
  generalize notT (lexS s).1 = n at *
  generalize lexS s = L at *
  obtain ⟨T, la, le⟩ := L
  obtain ⟨rts, rp, rbad⟩ := r
  dsimp only at *
  simp only [eC3] at ⊢
  simp only [eLex, eToks] at cl
  simp only [eRd, Int.cast_ofNat_Int] at cm cr
  simp only [eCell, eTests] at cr cc
  have e1 : ∀ σ : Store, View σ (.agg [.bool false, .bool false, .nils]) (eCell c0) := fun σ => view_c0
  have e2 : ∀ σ : Store, View σ (.agg [.bool true, .bool false, .nils]) (eCell cAny) := fun σ => view_cAny
  have e3 : ∀ σ : Store, View σ (.agg [.bool false, .bool n, .lst false ES (rts.map eTest)]) (eCell ⟨false, n, rts⟩) := fun σ => View.eqv rfl (pur_eCell _)
  by_cases h1 : le ≠ 0
  · rw [if_pos h1]
    generalize eCell c0 = E at *
    refine CallF.of_nil (of_cell_Parse (by simp) ?_) (by simp)
    unfold b_cell_Parse WpR
    intro Q hQr hQn hQp
    repeat' first | refine go_ ?_ | refine cf_ cl ?_ | refine br_ (fun hw => ?_) (fun hw => ?_) <;> try omega | fail
    all_goals exact leafN (view3 (e1 _))
  rw [if_neg h1]
  by_cases h2 : T.length = 1 ∧ (mt == [45]) = true
  · rw [if_pos h2]
    generalize eCell cAny = E2 at *
    obtain ⟨h2, h3⟩ := h2
    refine CallF.of_nil (of_cell_Parse (by simp) ?_) (by simp)
    unfold b_cell_Parse WpR
    intro Q hQr hQn hQp
    repeat' first | simp (disch := omega) only [go_sem, hQr, hQn, hQp, wrapK_i64, wrapK_u8, wrapK_u64, Nat.reduceAdd, Nat.reduceBEq, ↓reduceIte, h2, h3] | refine go_ ?_ | refine cf_ cl ?_ | refine cm_ cm ?_ | refine br_ (fun hw => ?_) (fun hw => ?_) <;> try omega | fail
    all_goals first | exact leafN (view3 (e2 _)) | exact ab_
  rw [if_neg h2]
  by_cases h4 : rp < T.length
  · rw [if_pos h4]
    generalize eCell c0 = E at *
    refine CallF.of_nil (of_cell_Parse (by simp) ?_) (by simp)
    unfold b_cell_Parse WpR
    intro Q hQr hQn hQp
    repeat' first | refine go_ ?_ | refine cf_ cl ?_ | refine cm_ cm ?_ | refine cm_ cr ?_ | refine br_ (fun hw => ?_) (fun hw => ?_) <;> try omega | fail
    all_goals first | exact leafN (view3 (e1 _)) | exact ab_
  rw [if_neg h4]
  by_cases h5 : rbad = true
  · rw [if_pos h5]
    subst h5
    generalize eCell c0 = E at *
    refine CallF.of_nil (of_cell_Parse (by simp) ?_) (by simp)
    unfold b_cell_Parse WpR
    intro Q hQr hQn hQp
    repeat' first | refine go_ ?_ | refine cf_ cl ?_ | refine cm_ cm ?_ | refine cm_ cr ?_ | refine br_ (fun hw => ?_) (fun hw => ?_) <;> try omega | fail
    all_goals first | exact leafN (view3 (e1 _)) | exact ab_
  rw [if_neg h5]
  obtain rfl : rbad = false := by simpa using h5
  by_cases h6 : 12 < rts.length
  · rw [if_pos h6]
    generalize eCell c0 = E at *
    refine CallF.of_nil (of_cell_Parse (by simp) ?_) (by simp)
    unfold b_cell_Parse WpR
    intro Q hQr hQn hQp
    repeat' first | refine go_ ?_ | refine cf_ cl ?_ | refine cm_ cm ?_ | refine cm_ cr ?_ | refine br_ (fun hw => ?_) (fun hw => ?_) <;> try omega | fail
    all_goals first | exact leafN (view3 (e1 _)) | exact ab_
  rw [if_neg h6]
  cases rb with
  | false =>
    rw [if_pos rfl]
    generalize eCell c0 = E at *
    simp only [errB, Bool.false_eq_true, if_false] at cc
    refine CallF.of_nil (of_cell_Parse (by simp) ?_) (by simp)
    unfold b_cell_Parse WpR
    intro Q hQr hQn hQp
    repeat' first | refine go_ ?_ | refine cf_ cl ?_ | refine cm_ cm ?_ | refine cm_ cr ?_ | refine cf_ cc ?_ | refine br_ (fun hw => ?_) (fun hw => ?_) <;> try omega | fail
    all_goals first | exact leafN (view3 (e1 _)) | exact ab_
  | true =>
    rw [if_neg (by simp)]
    generalize eCell ⟨false, n, rts⟩ = E3 at *
    simp only [errB, if_true] at cc
    refine CallF.of_nil (of_cell_Parse (by simp) ?_) (by simp)
    unfold b_cell_Parse WpR
    intro Q hQr hQn hQp
    repeat' first | refine go_ ?_ | refine cf_ cl ?_ | refine cm_ cm ?_ | refine cm_ cr ?_ | refine cf_ cc ?_ | refine br_ (fun hw => ?_) (fun hw => ?_) <;> try omega | fail
    all_goals first | exact leafN (view3 (e3 _)) | exact ab_
structure Lp2 where
  t : Test
  acc : List Test
  p : Nat
  b : Bool
  f : Nat
def fitsT (t : Test) (a b : Int) : Bool := fitsK a b && (decide (t.kind = 1) || (decide (a ≠ 3) && decide (b ≠ 3)))
theorem cell_fits (t : Test) (a b : Int) : CallF Tryz.prog n_cell_fits [eTest t, I a, I b] (.bool (fitsT t a b)) := by
  have hf := typing_Fits a b
  have hS : fitsT t a b = (fitsK a b && (decide (t.kind = 1) || (decide (a ≠ 3) && decide (b ≠ 3)))) := rfl
  rw [hS]
  generalize fitsK a b = f at *
  simp only [eTest, eExprs]
  refine CallF.of_nil (of_cell_fits (by simp) ?_) (by simp)
  unfold b_cell_fits WpR
  intro Q hQr hQn hQp
  repeat' first | refine go_ ?_ | refine cf_ hf ?_ | refine br_ (fun hw => ?_) (fun hw => ?_) <;> try omega | fail
  all_goals (refine leafE ?_ rfl; refine congrArg AV.bool ?_; rw [Bool.eq_iff_iff]; simp_all)
def partsT (t : Test) : List Expr := if t.kind = 6 then [t.a, t.b] else [t.a]
theorem cell_parts (t : Test) : CallF Tryz.prog n_cell_parts [eTest t] (eExprs (partsT t)) := by
  have h1 : ∀ σ : Store, View σ (.lst true EX [.agg [I t.a.op, I t.a.v.kind, I t.a.v.n, .str t.a.v.s, .str t.a.s, .lst false EX (t.a.l.map eExpr)]]) (eExprs [t.a]) := fun σ => by
    rw [eExprs, List.map_cons, List.map_nil, eExpr_eq]; exact View.weak _ _ _ (by simp)
  have h2 : ∀ σ : Store, View σ (.lst true EX [.agg [I t.a.op, I t.a.v.kind, I t.a.v.n, .str t.a.v.s, .str t.a.s, .lst false EX (t.a.l.map eExpr)], .agg [I t.b.op, I t.b.v.kind, I t.b.v.n, .str t.b.v.s, .str t.b.s, .lst false EX (t.b.l.map eExpr)]]) (eExprs [t.a, t.b]) := fun σ => by
    rw [eExprs, List.map_cons, List.map_cons, List.map_nil, eExpr_eq, eExpr_eq]; exact View.weak _ _ _ (by simp)
  unfold partsT
  by_cases h6 : t.kind = 6
  · rw [if_pos h6]
    generalize eExprs [t.a, t.b] = E at *
    simp only [eTest, eExprs]
    refine CallF.of_nil (of_cell_parts (by simp) ?_) (by simp)
    unfold b_cell_parts WpR
    intro Q hQr hQn hQp
    repeat' first | simp (disch := omega) only [go_sem, hQr, hQn, hQp, wrapK_i64, wrapK_u8, wrapK_u64, Nat.reduceAdd, Nat.reduceBEq, ↓reduceIte, h6] | refine go_ ?_ | refine br_ (fun hw => ?_) (fun hw => ?_) <;> try omega | fail
    all_goals exact leaf1 (h2 _)
  · rw [if_neg h6]
    generalize eExprs [t.a] = E at *
    simp only [eTest, eExprs]
    refine CallF.of_nil (of_cell_parts (by simp) ?_) (by simp)
    unfold b_cell_parts WpR
    intro Q hQr hQn hQp
    repeat' first | refine go_ ?_ | refine br_ (fun hw => ?_) (fun hw => ?_) <;> try omega | fail
    all_goals exact leaf1 (h1 _)
def kindR (cs : List Col) (x : Expr) : Int × Int := if rightX x then kindX cs x else (0, 2)
theorem typing_KindR (cs : List Col) (hcs : cs.length ≤ 2 ^ 60) (x : Expr) (hx : okX x) (hz : szS x ≤ 2 ^ 60) : CallF Tryz.prog n_typing_Kind [eExpr x, eCols cs] (.tup [I (kindR cs x).1, I (kindR cs x).2]) := by
  have := typing_Kind cs hcs x hx hz
  unfold kindR
  cases hr : rightX x <;> simpa [hr] using this
def typT (cs : List Col) (kind : Int) (t : Test) : Int :=
  if (kindR cs t.a).2 ≠ 0 then (kindR cs t.a).2
  else if t.kind = 6 then (if (kindR cs t.b).2 ≠ 0 then (kindR cs t.b).2 else if fitsT t kind (kindR cs t.a).1 && fitsT t kind (kindR cs t.b).1 then 0 else 14)
  else if fitsT t kind (kindR cs t.a).1 then 0 else 14
def typC (cs : List Col) (kind : Int) (c : Cell) : Int := if rightC c then (match c.tests.find? (fun t => typT cs kind t != 0) with
  | some t => typT cs kind t
  | none => 0) else 2
theorem typC_at {cs : List Col} {kind : Int} {c : Cell} {i : Nat} {e : Int} (hr : rightC c = true) (hi : i < c.tests.length) (h : ∀ k, k < i → (typT cs kind (c.tests.getD k default) != 0) = false) (he : typT cs kind (c.tests.getD i default) = e) (hne : e ≠ 0) : typC cs kind c = e := by
  unfold typC
  rw [if_pos hr, find_at (p := fun t => typT cs kind t != 0) hi h (by rw [he]; simpa using hne)]
  exact he
theorem typC_non {cs : List Col} {kind : Int} {c : Cell} (hr : rightC c = true) (h : ∀ k, k < c.tests.length → (typT cs kind (c.tests.getD k default) != 0) = false) : typC cs kind c = 0 := by
  unfold typC
  rw [if_pos hr, find_non (p := fun t => typT cs kind t != 0) h]
end Go.Proofs.YthkhdedadacakaaGreatDoor
