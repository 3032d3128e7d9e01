/- Part of a proof: see Root. -/
import Derived.Test.YtmbgnaoilncbnaaGreatW17
set_option linter.unnecessarySimpa false
set_option linter.unusedSimpArgs false
set_option linter.unusedVariables false
namespace Go.Proofs.YtmbgnaoilncbnaaGreat
open Go.AM
set_option maxRecDepth 4000
theorem rise_pos {l : List Int} : ∀ i, (∀ k, k < i → riseK l k = true) → 0 < i → 0 ≤ l.getD (i - 1) default := by
  intro i
  induction i with
  | zero => intro _ h; omega
  | succ i ih =>
    intro h _
    have h1 := h i (Nat.lt_succ_self _)
    have hk : riseK l i = decide (lastK l i < l.getD i default ∧ l.getD i default < 24) := rfl
    rw [hk, decide_eq_true_eq] at h1
    rw [Nat.add_sub_cancel]
    by_cases hi : i = 0
    · subst hi; have : lastK l 0 = -1 := rfl; omega
    · have h2 := ih (fun k hk => h k (by omega)) (by omega)
      have : lastK l i = l.getD (i - 1) default := by unfold lastK; rw [if_neg hi]; rfl
      omega
theorem rightR_no {a c : Bool} {B D : Int} {m : Nat} {F : List Int} {G : List (List Val)} {p : Bool} (h : ¬(a = true ∧ (1 ≤ B ∧ B ≤ 2147483648) ∧ m ≤ 6 ∧ c = true ∧ (0 ≤ D ∧ D ≤ 99) ∧ F.length ≤ 24 ∧ G.length ≤ 24)) : (a && decide (1 ≤ B ∧ B ≤ 2147483648) && decide (0 ≤ D ∧ D ≤ 99) && riseS F && decide (G.length ≤ 24) && (decide (m ≤ 6) && c) && p) = false := by
  cases hx : (a && decide (1 ≤ B ∧ B ≤ 2147483648) && decide (0 ≤ D ∧ D ≤ 99) && riseS F && decide (G.length ≤ 24) && (decide (m ≤ 6) && c) && p) with
  | false => rfl
  | true =>
    simp only [Bool.and_eq_true, decide_eq_true_eq] at hx
    exact absurd ⟨hx.1.1.1.1.1.1, hx.1.1.1.1.1.2, hx.1.2.1, hx.1.2.2, hx.1.1.1.1.2, rise_len hx.1.1.1.2, hx.1.1.2⟩ h
def c2_ref21_Right : ACode :=  .seq (.seq (.region [⟨.mv (.c (.int .i64 0)), (some 4), none⟩]) <|
  .block 2 (.loop (.seq (.seq (.region [⟨.mv (.t 4), (some 101), none⟩, ⟨.faddr 3 (.t 1), (some 102), none⟩, ⟨.faddr 2 (.t 102), (some 103), none⟩, ⟨.load false 1 (.t 103), (some 104), none⟩, ⟨.len false (.t 104), (some 105), none⟩, ⟨.bin .lss (.t 101) (.t 105), (some 106), none⟩]) <|
  .cond (.t 106) (.skip) (.exit 2)) <|
  .seq (.block 3 (.seq (.region [⟨.faddr 3 (.t 1), (some 109), none⟩, ⟨.faddr 2 (.t 109), (some 110), none⟩, ⟨.load false 1 (.t 110), (some 111), none⟩, ⟨.mv (.t 4), (some 112), none⟩, ⟨.iaddr ⟨false, 1⟩ none (.t 111) (.t 112), (some 113), none⟩, ⟨.load false 1 (.t 113), (some 114), none⟩, ⟨.len false (.t 114), (some 115), none⟩, ⟨.bin .gtr (.t 115) (.c (.int .i64 6)), (some 116), none⟩, ⟨.mv (.t 116), (some 117), none⟩, ⟨.faddr 3 (.t 1), (some 118), some (117, false)⟩, ⟨.faddr 2 (.t 118), (some 119), some (117, false)⟩, ⟨.load false 1 (.t 119), (some 120), some (117, false)⟩, ⟨.mv (.t 4), (some 121), some (117, false)⟩, ⟨.iaddr ⟨false, 1⟩ none (.t 120) (.t 121), (some 122), some (117, false)⟩, ⟨.load false 1 (.t 122), (some 123), some (117, false)⟩, ⟨.call false (.c (.fn (.func n_ref12_RightRow) [] [])) [(.t 123)], (some 124), some (117, false)⟩, ⟨.un .not (.t 124), (some 125), some (117, false)⟩, ⟨.pick (.t 117) (.c (.bool true)) (.t 125), (some 126), none⟩]) <|
  .cond (.t 126) (.seq (.region [⟨.mv (.c (.bool false)), (some 2), none⟩]) <|
  .ret) (.skip))) <|
  .region [⟨.mv (.t 4), (some 107), none⟩, ⟨.bin .add (.t 107) (.c (.int .i64 1)), (some 108), none⟩, ⟨.mv (.t 108), (some 4), none⟩]))) <|
  .seq (.region [⟨.mv (.c (.bool true)), (some 2), none⟩]) <|
  .ret
def c1_ref21_Right : ACode :=  .seq (.seq (.region [⟨.mv (.c (.int .i64 0)), (some 3), none⟩]) <|
  .block 0 (.loop (.seq (.seq (.region [⟨.mv (.t 3), (some 57), none⟩, ⟨.faddr 3 (.t 1), (some 58), none⟩, ⟨.faddr 1 (.t 58), (some 59), none⟩, ⟨.load false 1 (.t 59), (some 60), none⟩, ⟨.len false (.t 60), (some 61), none⟩, ⟨.bin .lss (.t 57) (.t 61), (some 62), none⟩]) <|
  .cond (.t 62) (.skip) (.exit 0)) <|
  .seq (.block 1 (.seq (.draw [⟨.faddr 3 (.t 1), (some 65), none⟩, ⟨.faddr 1 (.t 65), (some 66), none⟩, ⟨.load false 1 (.t 66), (some 67), none⟩, ⟨.mv (.t 3), (some 68), none⟩, ⟨.iaddr ⟨false, 1⟩ none (.t 67) (.t 68), (some 69), none⟩, ⟨.load false 1 (.t 69), (some 70), none⟩, ⟨.bin .lss (.t 70) (.c (.int .i64 0)), (some 71), none⟩, ⟨.mv (.t 71), (some 72), none⟩, ⟨.faddr 3 (.t 1), (some 73), some (72, false)⟩, ⟨.faddr 1 (.t 73), (some 74), some (72, false)⟩, ⟨.load false 1 (.t 74), (some 75), some (72, false)⟩, ⟨.mv (.t 3), (some 76), some (72, false)⟩, ⟨.iaddr ⟨false, 1⟩ none (.t 75) (.t 76), (some 77), some (72, false)⟩, ⟨.load false 1 (.t 77), (some 78), some (72, false)⟩, ⟨.bin .gtr (.t 78) (.c (.int .i64 23)), (some 79), some (72, false)⟩, ⟨.pick (.t 72) (.c (.bool true)) (.t 79), (some 80), none⟩, ⟨.mv (.t 80), (some 81), none⟩, ⟨.mv (.t 3), (some 82), some (81, false)⟩, ⟨.bin .gtr (.t 82) (.c (.int .i64 0)), (some 83), some (81, false)⟩, ⟨.mv (.t 83), (some 84), some (81, false)⟩, ⟨.faddr 3 (.t 1), (some 85), some (84, true)⟩, ⟨.faddr 1 (.t 85), (some 86), some (84, true)⟩, ⟨.load false 1 (.t 86), (some 87), some (84, true)⟩, ⟨.mv (.t 3), (some 88), some (84, true)⟩, ⟨.bin .sub (.t 88) (.c (.int .i64 1)), (some 89), some (84, true)⟩, ⟨.iaddr ⟨false, 1⟩ none (.t 87) (.t 89), (some 90), some (84, true)⟩, ⟨.load false 1 (.t 90), (some 91), some (84, true)⟩, ⟨.faddr 3 (.t 1), (some 92), some (84, true)⟩, ⟨.faddr 1 (.t 92), (some 93), some (84, true)⟩, ⟨.load false 1 (.t 93), (some 94), some (84, true)⟩, ⟨.mv (.t 3), (some 95), some (84, true)⟩, ⟨.iaddr ⟨false, 1⟩ none (.t 94) (.t 95), (some 96), some (84, true)⟩, ⟨.load false 1 (.t 96), (some 97), some (84, true)⟩, ⟨.bin .geq (.t 91) (.t 97), (some 98), some (84, true)⟩, ⟨.pick (.t 84) (.t 98) (.c (.bool false)), (some 99), some (81, false)⟩, ⟨.pick (.t 81) (.c (.bool true)) (.t 99), (some 100), none⟩] []) <|
  .cond (.t 100) (.seq (.region [⟨.mv (.c (.bool false)), (some 2), none⟩]) <|
  .ret) (.skip))) <|
  .region [⟨.mv (.t 3), (some 63), none⟩, ⟨.bin .add (.t 63) (.c (.int .i64 1)), (some 64), none⟩, ⟨.mv (.t 64), (some 3), none⟩]))) <|
  c2_ref21_Right
theorem cut_ref21_Right : b_ref21_Right = (.seq (.region [⟨.box (.t 0), (some 1), none⟩, ⟨.mv (.c (.bool false)), (some 2), none⟩]) <|
  .seq (.seq (.region [⟨.faddr 0 (.t 1), (some 5), none⟩, ⟨.load false 1 (.t 5), (some 6), none⟩, ⟨.call false (.c (.fn (.func n_ref13_Name) [] [])) [(.t 6)], (some 7), none⟩, ⟨.un .not (.t 7), (some 8), none⟩, ⟨.mv (.t 8), (some 9), none⟩, ⟨.faddr 1 (.t 1), (some 10), some (9, false)⟩, ⟨.load false 1 (.t 10), (some 11), some (9, false)⟩, ⟨.bin .lss (.t 11) (.c (.int .i64 1)), (some 12), some (9, false)⟩, ⟨.pick (.t 9) (.c (.bool true)) (.t 12), (some 13), none⟩, ⟨.mv (.t 13), (some 14), none⟩, ⟨.faddr 1 (.t 1), (some 15), some (14, false)⟩, ⟨.load false 1 (.t 15), (some 16), some (14, false)⟩, ⟨.bin .gtr (.t 16) (.c (.int .i64 2147483648)), (some 17), some (14, false)⟩, ⟨.pick (.t 14) (.c (.bool true)) (.t 17), (some 18), none⟩, ⟨.mv (.t 18), (some 19), none⟩, ⟨.faddr 2 (.t 1), (some 20), some (19, false)⟩, ⟨.load false 1 (.t 20), (some 21), some (19, false)⟩, ⟨.len false (.t 21), (some 22), some (19, false)⟩, ⟨.bin .gtr (.t 22) (.c (.int .i64 6)), (some 23), some (19, false)⟩, ⟨.pick (.t 19) (.c (.bool true)) (.t 23), (some 24), none⟩, ⟨.mv (.t 24), (some 25), none⟩, ⟨.faddr 2 (.t 1), (some 26), some (25, false)⟩, ⟨.load false 1 (.t 26), (some 27), some (25, false)⟩, ⟨.call false (.c (.fn (.func n_ref12_RightRow) [] [])) [(.t 27)], (some 28), some (25, false)⟩, ⟨.un .not (.t 28), (some 29), some (25, false)⟩, ⟨.pick (.t 25) (.c (.bool true)) (.t 29), (some 30), none⟩, ⟨.mv (.t 30), (some 31), none⟩, ⟨.faddr 3 (.t 1), (some 32), some (31, false)⟩, ⟨.faddr 0 (.t 32), (some 33), some (31, false)⟩, ⟨.load false 1 (.t 33), (some 34), some (31, false)⟩, ⟨.bin .lss (.t 34) (.c (.int .i64 0)), (some 35), some (31, false)⟩, ⟨.pick (.t 31) (.c (.bool true)) (.t 35), (some 36), none⟩, ⟨.mv (.t 36), (some 37), none⟩, ⟨.faddr 3 (.t 1), (some 38), some (37, false)⟩, ⟨.faddr 0 (.t 38), (some 39), some (37, false)⟩, ⟨.load false 1 (.t 39), (some 40), some (37, false)⟩, ⟨.bin .gtr (.t 40) (.c (.int .i64 99)), (some 41), some (37, false)⟩, ⟨.pick (.t 37) (.c (.bool true)) (.t 41), (some 42), none⟩, ⟨.mv (.t 42), (some 43), none⟩, ⟨.faddr 3 (.t 1), (some 44), some (43, false)⟩, ⟨.faddr 1 (.t 44), (some 45), some (43, false)⟩, ⟨.load false 1 (.t 45), (some 46), some (43, false)⟩, ⟨.len false (.t 46), (some 47), some (43, false)⟩, ⟨.bin .gtr (.t 47) (.c (.int .i64 24)), (some 48), some (43, false)⟩, ⟨.pick (.t 43) (.c (.bool true)) (.t 48), (some 49), none⟩, ⟨.mv (.t 49), (some 50), none⟩, ⟨.faddr 3 (.t 1), (some 51), some (50, false)⟩, ⟨.faddr 2 (.t 51), (some 52), some (50, false)⟩, ⟨.load false 1 (.t 52), (some 53), some (50, false)⟩, ⟨.len false (.t 53), (some 54), some (50, false)⟩, ⟨.bin .gtr (.t 54) (.c (.int .i64 24)), (some 55), some (50, false)⟩, ⟨.pick (.t 50) (.c (.bool true)) (.t 55), (some 56), none⟩]) <|
  .cond (.t 56) (.seq (.region [⟨.mv (.c (.bool false)), (some 2), none⟩]) <|
  .ret) (.skip)) <|
  c1_ref21_Right) := rfl
theorem puts_at {e' : Env} : ∀ (l : List (Nat × AV)), At l e' → puts l e' = e'
  | [], _ => rfl
  | (d, v) :: l, h => by
    simp only [puts]
    rw [puts_at l (fun p hp => h p (List.mem_cons_of_mem _ hp))]
    exact upd_same (h (d, v) (by simp))
theorem cut_to {P : Program} {c : ACode} {Q : AQ} {S : Store} {e : Env} (cs : List (Nat × AV)) (hr : ∀ r, wpA P c Q (puts cs r) S) (hat : At cs e) : wpA P c Q e S := by
  have := hr e
  rwa [puts_at cs hat] at this
set_option maxHeartbeats 4000000 in
theorem ref21_Right (e : Ent) (ok : okEnt e) : CallF Tryz.prog n_ref21_Right [eEnt e] (.bool (rightE e)) := by
  obtain ⟨o1, o2, o3, o4, o5, o6, o7⟩ := ok
  have c1 := ref13_Name e.table (by omega)
  have c3 := ref12_RightRow e.input o3
  obtain ⟨E, hE⟩ : ∃ E, rightE e = E := ⟨_, rfl⟩
  rw [hE]
  unfold rightE plainV at hE
  obtain ⟨A, B, C, D, F, G⟩ := e
  dsimp only at *
  generalize nameS A = a at *
  generalize C.all rightV = c at *
  obtain ⟨p, hp⟩ : ∃ p, G.all (fun l => decide (l.length ≤ 6) && l.all rightV) = p := ⟨_, rfl⟩
  have hp' : G.all plainV = p := hp
  rw [hp] at hE
  simp only [eInts, eVals, eRows, eEnt, cEnt] at c3 ⊢
  refine CallF.of_nil (of_ref21_Right (by simp) ?_) (by simp)
  unfold WpR
  intro Q hQr hQn hQp
  rw [cut_ref21_Right]
  dsimp (config := { zeta := true }) only
  by_cases hg : a = true ∧ (1 ≤ B ∧ B ≤ 2147483648) ∧ C.length ≤ 6 ∧ c = true ∧ (0 ≤ D ∧ D ≤ 99) ∧ F.length ≤ 24 ∧ G.length ≤ 24
  · obtain ⟨h1, h2, h3, h4, h5, h6, h7⟩ := hg
    subst h1; subst h4
    rw [decide_eq_true h2, decide_eq_true h5, decide_eq_true h3, decide_eq_true h7] at hE
    simp only [Bool.true_and, Bool.and_true] at hE
    have rest2 : riseS F = true → ∀ r : Env, wpA Tryz.prog c2_ref21_Right Q (puts [(1, .ref 0 0)] r) [.cells [.str A, I B, .lst false EV (C.map eVal), I D, .lst false E1 (F.map eInt), .lst false E1 (G.map eVals)]] := by
      intro hr r0
      rw [hr, Bool.true_and] at hE
      clear c1 c3
      unfold c2_ref21_Right
      try dsimp (config := { zeta := true }) only
      repeat' first | refine go_ ?_ | refine br_ (fun hw => ?_) (fun hw => ?_) <;> try omega | fail
      with_reducible refine loop_i [2, 4, 101, 102, 103, 104, 105, 106, 107, 108, 109, 110, 111, 112, 113, 114, 115, 116, 117, 118, 119, 120, 121, 122, 123, 124, 125, 126] (fun q : Nat => [(4, I q)]) (fun _ => [.cells [.str A, I B, .lst false EV (C.map eVal), I D, .lst false E1 (F.map eInt), .lst false E1 (G.map eVals)]]) (fun q => q ≤ G.length ∧ ∀ k, k < q → plainV (G.getD k default) = true) (fun q => G.length - q) (0) ?_ ?_ ?_ ?_
      · simp
      · rfl
      · exact at_
      rintro i' r' ⟨f1, f2⟩
      by_cases hi' : i' < G.length
      · have hne := fun h => allF (p := plainV) hi' h
        have hbs := fun he => before_succ (q := fun k => plainV (G.getD k default) = true) f2 (i := i') he
        have hv := o7 _ (getD_mem hi')
        have c5 := ref12_RightRow _ hv
        have hk : plainV (G.getD i' default) = (decide ((G.getD i' default).length ≤ 6) && (G.getD i' default).all rightV) := rfl
        obtain ⟨x, hx⟩ : ∃ x, G.getD i' default = x := ⟨_, rfl⟩
        rw [hx] at c5 hk hne hbs
        generalize x.all rightV = b at *
        simp only [eVals] at c5
        repeat' first | simp (disch := omega) only [go_sem, hQr, hQn, hQp, wrapK_i64, wrapK_u8, wrapK_u64, Nat.reduceAdd, Nat.reduceBEq, ↓reduceIte, hx] | refine go_ ?_ | refine cf_ c5 ?_ | refine br_ (fun hw => ?_) (fun hw => ?_) <;> try omega | fail
        all_goals first
          | exact ab_
          | (exact leafE (by rw [← hE, ← hp', hne (by rw [hk]; first | rw [decide_eq_false (by omega), Bool.false_and] | (simp_all; done))]) rfl)
          | (refine ⟨i' + 1, ?_, ?_, ?_, ou_, at_⟩
             · exact ⟨by omega, hbs (by rw [hk, decide_eq_true (by omega), Bool.true_and]; assumption)⟩
             · dsimp only; omega
             · first | rfl | (simp [go_sem]; done))
          | trace_state
      · repeat' first | refine go_ ?_ | refine br_ (fun hw => ?_) (fun hw => ?_) <;> try omega | fail
        exact leafE (by rw [← hE, ← hp', allN (fun k hk => f2 k (by omega))]) rfl
    have rest1 : ∀ r : Env, wpA Tryz.prog c1_ref21_Right Q (puts [(1, .ref 0 0)] r) [.cells [.str A, I B, .lst false EV (C.map eVal), I D, .lst false E1 (F.map eInt), .lst false E1 (G.map eVals)]] := by
      intro r0
      clear c1 c3
      unfold c1_ref21_Right
      try dsimp (config := { zeta := true }) only
      repeat' first | refine go_ ?_ | refine br_ (fun hw => ?_) (fun hw => ?_) <;> try omega | fail
      with_reducible refine loop_i [2, 3, 57, 58, 59, 60, 61, 62, 63, 64, 65, 66, 67, 68, 69, 70, 71, 72, 73, 74, 75, 76, 77, 78, 79, 80, 81, 82, 83, 84, 85, 86, 87, 88, 89, 90, 91, 92, 93, 94, 95, 96, 97, 98, 99, 100] (fun q : Nat => [(3, I q)]) (fun _ => [.cells [.str A, I B, .lst false EV (C.map eVal), I D, .lst false E1 (F.map eInt), .lst false E1 (G.map eVals)]]) (fun q => q ≤ F.length ∧ ∀ k, k < q → riseK F k = true) (fun q => F.length - q) (0) ?_ ?_ ?_ ?_
      · simp
      · rfl
      · exact at_
      rintro i r ⟨g1, g2⟩
      by_cases hi : i < F.length
      · have hne := fun h => rise_no (l := F) hi h
        have hbs := fun he => before_succ (q := fun k => riseK F k = true) g2 (i := i) he
        have hk : riseK F i = decide (lastK F i < F.getD i default ∧ F.getD i default < 24) := rfl
        cases i with
        | zero =>
          have h0 : lastK F 0 = -1 := rfl
          rw [h0] at hk
          obtain ⟨n, hn⟩ : ∃ n, F.getD 0 default = n := ⟨_, rfl⟩
          rw [hn] at hk
          repeat' first | simp (disch := omega) only [go_sem, hQr, hQn, hQp, wrapK_i64, wrapK_u8, wrapK_u64, Nat.reduceAdd, Nat.reduceBEq, ↓reduceIte, hn] | refine go_ ?_ | refine br_ (fun hw => ?_) (fun hw => ?_) <;> try omega | fail
          all_goals first
            | exact ab_
            | (exact leafE (by rw [← hE, hne (by rw [hk, decide_eq_false (by omega)]), Bool.false_and]) rfl)
            | (refine ⟨1, ?_, ?_, ?_, ou_, at_⟩
               · exact ⟨by omega, hbs (by rw [hk, decide_eq_true (by omega)])⟩
               · dsimp only; omega
               · first | rfl | (simp [go_sem]; done))
            | trace_state
        | succ j =>
          have h0 : lastK F (j + 1) = F.getD j default := by unfold lastK; rw [if_neg (by omega), Nat.add_sub_cancel]; rfl
          have hpos := rise_pos (l := F) (j + 1) g2 (by omega)
          rw [Nat.add_sub_cancel] at hpos
          rw [h0] at hk
          obtain ⟨n, hn⟩ : ∃ n, F.getD (j + 1) default = n := ⟨_, rfl⟩
          obtain ⟨m, hm⟩ : ∃ m, F.getD j default = m := ⟨_, rfl⟩
          rw [hn, hm] at hk
          rw [hm] at hpos
          have dj : decide ((0 : Int) < (j : Int) + 1) = true := decide_eq_true (by omega)
          by_cases s1 : n < 0
          · have t1 := decide_eq_true s1
            repeat' first | simp (disch := omega) only [go_sem, hQr, hQn, hQp, wrapK_i64, wrapK_u8, wrapK_u64, Nat.reduceAdd, Nat.reduceBEq, ↓reduceIte, hn, hm, t1, Int.natCast_add, Int.cast_ofNat_Int, Int.add_sub_cancel] | refine go_ ?_ | refine br_ (fun hw => ?_) (fun hw => ?_) <;> try omega | fail
            all_goals first | exact ab_ | exact leafE (by rw [← hE, hne (by rw [hk, decide_eq_false (by omega)]), Bool.false_and]) rfl
          have t1 := decide_eq_false s1
          by_cases s2 : 23 < n
          · have t2 := decide_eq_true s2
            repeat' first | simp (disch := omega) only [go_sem, hQr, hQn, hQp, wrapK_i64, wrapK_u8, wrapK_u64, Nat.reduceAdd, Nat.reduceBEq, ↓reduceIte, hn, hm, t1, t2, Int.natCast_add, Int.cast_ofNat_Int, Int.add_sub_cancel] | refine go_ ?_ | refine br_ (fun hw => ?_) (fun hw => ?_) <;> try omega | fail
            all_goals first | exact ab_ | exact leafE (by rw [← hE, hne (by rw [hk, decide_eq_false (by omega)]), Bool.false_and]) rfl
          have t2 := decide_eq_false s2
          by_cases s3 : n ≤ m
          · have t3 := decide_eq_true s3
            repeat' first | simp (disch := omega) only [go_sem, hQr, hQn, hQp, wrapK_i64, wrapK_u8, wrapK_u64, Nat.reduceAdd, Nat.reduceBEq, ↓reduceIte, hn, hm, t1, t2, t3, dj, Int.natCast_add, Int.cast_ofNat_Int, Int.add_sub_cancel] | refine go_ ?_ | refine br_ (fun hw => ?_) (fun hw => ?_) <;> try omega | fail
            all_goals first | exact ab_ | exact leafE (by rw [← hE, hne (by rw [hk, decide_eq_false (by omega)]), Bool.false_and]) rfl
          have t3 := decide_eq_false s3
          repeat' first | simp (disch := omega) only [go_sem, hQr, hQn, hQp, wrapK_i64, wrapK_u8, wrapK_u64, Nat.reduceAdd, Nat.reduceBEq, ↓reduceIte, hn, hm, t1, t2, t3, dj, Int.natCast_add, Int.cast_ofNat_Int, Int.add_sub_cancel] | refine go_ ?_ | refine br_ (fun hw => ?_) (fun hw => ?_) <;> try omega | fail
          all_goals first
            | exact ab_
            | (refine ⟨j + 1 + 1, ?_, ?_, ?_, ou_, at_⟩
               · exact ⟨by omega, hbs (by rw [hk, decide_eq_true (by omega)])⟩
               · dsimp only; omega
               · first | rfl | (simp [go_sem]; done))
            | trace_state
      · repeat' first | refine go_ ?_ | refine br_ (fun hw => ?_) (fun hw => ?_) <;> try omega | fail
        exact cut_to _ (rest2 (rise_all (fun k hk => g2 k (by omega)))) at_
    have d1 : decide (B < 1) = false := decide_eq_false (by omega)
    have d2 : decide (2147483648 < B) = false := decide_eq_false (by omega)
    have d3 : decide (6 < (C.length : Int)) = false := decide_eq_false (by omega)
    have d4 : decide (D < 0) = false := decide_eq_false (by omega)
    have d5 : decide (99 < D) = false := decide_eq_false (by omega)
    have d6 : decide (24 < (F.length : Int)) = false := decide_eq_false (by omega)
    have d7 : decide (24 < (G.length : Int)) = false := decide_eq_false (by omega)
    repeat' first | simp (disch := omega) only [go_sem, hQr, hQn, hQp, wrapK_i64, wrapK_u8, wrapK_u64, Nat.reduceAdd, Nat.reduceBEq, ↓reduceIte, d1, d2, d3, d4, d5, d6, d7] | refine go_ ?_ | refine cf_ c1 ?_ | refine cf_ c3 ?_ | refine br_ (fun hw => ?_) (fun hw => ?_) <;> try omega | fail
    exact cut_to _ rest1 at_
  · rw [rightR_no hg] at hE
    repeat' first | refine go_ ?_ | refine cf_ c1 ?_ | refine cf_ c3 ?_ | refine br_ (fun hw => ?_) (fun hw => ?_) <;> try omega | fail
    all_goals first
      | (exact leafE (by rw [← hE]) rfl)
      | (refine absurd ⟨by assumption, ⟨by omega, by omega⟩, by omega, by assumption, ⟨by omega, by omega⟩, by omega, by omega⟩ hg)
      | exact ab_
      | trace_state
end Go.Proofs.YtmbgnaoilncbnaaGreat
namespace Go.Proofs.YtmbgnaoilncbnaaGreat
open Go.AM
set_option maxRecDepth 4000
theorem fm_snoc {α : Type} [Inhabited α] (f : α → Str) {l : List α} {i : Nat} (hi : i < l.length) (x : Str) : x ++ (l.take (i + 1)).flatMap f = (x ++ (l.take i).flatMap f) ++ f (l.getD i default) := by
  rw [take_succ hi, List.flatMap_append]; simp
theorem textB_len (s : Str) : (textB s).length ≤ 10 + s.length := by unfold textB; have := numB_len s.length; rw [List.length_append]; omega
theorem rowB_len {l : List Val} (hl : l.length ≤ 8) (h : ∀ v ∈ l, rightV v = true) : (rowB l).length ≤ 1000 := by
  have h1 := numB_len l.length
  have h2 : (l.flatMap bytesV).length ≤ 70 * l.length := by
    clear h1 hl
    induction l with
    | nil => simp
    | cons v l ih =>
      have a1 := bytesV_len v
      have a2 := right_ok (h v (by simp))
      have a3 := ih (fun w hw => h w (by simp [hw]))
      rw [List.flatMap_cons, List.length_append, List.length_cons]; omega
  unfold rowB; rw [List.length_append]; omega
theorem max_of {a b : Nat} (h : a + b ≤ 2 ^ 40) : ((a + b : Nat) : Int) ≤ IntKind.i64.max := by show _ ≤ (9223372036854775807 : Int); omega
section
variable {σ : Store} {K Kp : AV → Store → Prop} {k : Nat}
theorem entry_text_1 {s x : Str} {l : List Val} (hok : okVals l) (hr : l.all rightV = true) (hx : rowB l = x) (hσ : σ[k]? = some (.cells [.str s])) (ha : ((s.length + x.length : Nat) : Int) ≤ IntKind.i64.max) (hk : bindV (.tup []) (.mk : Tg fun r => bindS (σ.set k (.cells [.str (s ++ x)])) (.mk : Tg fun σ => K r σ))) : callL Tryz.prog n_entry_text_1 [.lst false EV (l.map eVal), .ref k 0] σ (.mk : Tg (K, Kp)) := by
  have c := value_Row l hok
  have e : rowR l = (rowB l, 0) := by unfold rowR; rw [if_pos hr]
  rw [e, hx] at c
  simp only [eVals] at c
  refine of_entry_text_1 (by simp) ?_
  unfold b_entry_text_1 WpR
  intro Q hQr hQn hQp
  repeat' first | simp (disch := omega) only [go_sem, hQr, hQn, hQp, wrapK_i64, wrapK_u8, wrapK_u64, Nat.reduceAdd, Nat.reduceBEq, ↓reduceIte, hσ] | refine go_ ?_ | refine cf_ c ?_ | refine br_ (fun hw => ?_) (fun hw => ?_) <;> try omega | fail
  exact hk
end
theorem plain_row {l : List Val} (h : plainV l = true) : l.all rightV = true ∧ (rowB l).length ≤ 1000 := by
  obtain ⟨h1, h2⟩ := plainV_all h
  exact ⟨List.all_eq_true.2 h2, rowB_len (by omega) h2⟩
set_option maxHeartbeats 4000000 in
theorem entry_text (e : Ent) (ok : okEnt e) (h : rightE e = true) : CallF Tryz.prog n_entry_text [eEnt e] (.str (textE e)) := by
  obtain ⟨z1, z2, z3, z4, z5, z6, z7⟩ := rightE_all h
  obtain ⟨o1, o2, o3, o4, o5, o6, o7⟩ := ok
  have hl := rise_len z4
  have hn16 := nameS_16 z1
  have c1 := octet_Text e.table (by omega)
  have c2 := octet_Num e.ver o2
  have c3 := octet_Num e.err o4
  have c4 := octet_Num e.rules.length ⟨by omega, by omega⟩
  have c5 := octet_Num e.rows.length ⟨by omega, by omega⟩
  have l1 := textB_len e.table
  have l2 := numB_len e.ver
  have l3 := numB_len e.err
  have l4 := numB_len e.rules.length
  have l5 := numB_len e.rows.length
  have p1 := plain_row z6
  obtain ⟨E, hE⟩ : ∃ E, textE e = E := ⟨_, rfl⟩
  rw [hE]
  unfold textE at hE
  obtain ⟨A, B, C, D, F, G⟩ := e
  dsimp only at *
  obtain ⟨xc, hxc⟩ : ∃ x, rowB C = x := ⟨_, rfl⟩
  rw [hxc] at hE p1
  generalize textB A = xa at *
  generalize numB B = xb at *
  generalize numB D = xd at *
  generalize numB F.length = xf at *
  generalize numB G.length = xg at *
  have a1 := max_of (a := xa.length) (b := xb.length) (by omega)
  have a2 := max_of (a := (xa ++ xb).length) (b := xc.length) (by rw [List.length_append]; omega)
  have a3 := max_of (a := xd.length) (b := xf.length) (by omega)
  have a4 := max_of (a := (xa ++ xb ++ xc).length) (b := (xd ++ xf).length) (by simp only [List.length_append]; omega)
  simp only [List.length_append] at a2 a4
  obtain ⟨X, hX⟩ : ∃ x, xa ++ xb ++ xc ++ (xd ++ xf) = x := ⟨_, rfl⟩
  have lX := congrArg List.length hX
  simp only [List.length_append] at lX
  rw [hX] at hE
  simp only [eInts, eVals, eRows, eEnt, cEnt] at c1 c2 c3 c4 c5 ⊢
  refine CallF.of_nil (of_entry_text (by simp) ?_) (by simp)
  unfold b_entry_text WpR
  intro Q hQr hQn hQp
  repeat' first | simp (disch := omega) only [go_sem, hQr, hQn, hQp, wrapK_i64, wrapK_u8, wrapK_u64, Nat.reduceAdd, Nat.reduceBEq, ↓reduceIte, hX] | refine go_ ?_ | refine cf_ c1 ?_ | refine cf_ c2 ?_ | refine cf_ c3 ?_ | refine cf_ c4 ?_ | with_reducible refine entry_text_1 o3 p1.1 hxc rfl (by simp only [List.length_append]; exact a2) ?_ | refine br_ (fun hw => ?_) (fun hw => ?_) <;> try omega | fail
  with_reducible refine loop_i [6, 37, 38, 39, 40, 41, 42, 43, 44, 45] (fun q : Nat => [(37, I q)]) (fun q => [.cells [.str A, I B, .lst false EV (C.map eVal), I D, .lst false E1 (F.map eInt), .lst false E1 (G.map eVals)], .cells [.str (X ++ (F.take q).flatMap numB)]]) (fun q => q ≤ F.length ∧ ((F.take q).flatMap numB).length ≤ q * 10) (fun q => F.length - q) (0) ?_ ?_ ?_ ?_
  · simp
  · simp only [List.take_zero, List.flatMap_nil, List.append_nil]
  · exact at_
  rintro i r ⟨g1, g2⟩
  try dsimp only at g1 g2
  by_cases hi : i < F.length
  · have hn := o5.2 _ (getD_mem hi)
    have hsn := fm_snoc numB hi X
    obtain ⟨n, hne⟩ : ∃ n, F.getD i default = n := ⟨_, rfl⟩
    rw [hne] at hn hsn
    have c6 := octet_Num n hn
    have l6 := numB_len n
    have hsl := congrArg List.length hsn
    obtain ⟨y, hy⟩ : ∃ y, X ++ (F.take i).flatMap numB = y := ⟨_, rfl⟩
    have hyl := congrArg List.length hy
    simp only [List.length_append] at hsl hyl
    rw [hy] at hsn
    have hadd := max_of (a := y.length) (b := (numB n).length) (by omega)
    repeat' first | simp (disch := omega) only [go_sem, hQr, hQn, hQp, wrapK_i64, wrapK_u8, wrapK_u64, Nat.reduceAdd, Nat.reduceBEq, ↓reduceIte, hne, hy] | refine go_ ?_ | refine cf_ c6 ?_ | refine br_ (fun hw => ?_) (fun hw => ?_) <;> try omega | fail
    refine ⟨i + 1, ?_, ?_, ?_, ou_, at_⟩
    · exact ⟨by omega, by omega⟩
    · dsimp only; omega
    · dsimp only; rw [hsn]
  · have ht : F.take i = F := List.take_of_length_le (by omega)
    rw [ht] at g2
    obtain ⟨Y, hY⟩ : ∃ y, X ++ F.flatMap numB = y := ⟨_, rfl⟩
    have lY := congrArg List.length hY
    simp only [List.length_append] at lY
    have a5 := max_of (a := Y.length) (b := xg.length) (by omega)
    rw [hY] at hE
    obtain ⟨Z, hZ⟩ : ∃ y, Y ++ xg = y := ⟨_, rfl⟩
    have lZ := congrArg List.length hZ
    simp only [List.length_append] at lZ
    rw [hZ] at hE
    repeat' first | simp (disch := omega) only [go_sem, hQr, hQn, hQp, wrapK_i64, wrapK_u8, wrapK_u64, Nat.reduceAdd, Nat.reduceBEq, ↓reduceIte, ht, hY, hZ] | refine go_ ?_ | refine cf_ c5 ?_ | refine br_ (fun hw => ?_) (fun hw => ?_) <;> try omega | fail
    with_reducible refine loop_i [8, 57, 58, 59, 60, 61, 62, 63, 64] (fun q : Nat => [(57, I q)]) (fun q => [.cells [.str A, I B, .lst false EV (C.map eVal), I D, .lst false E1 (F.map eInt), .lst false E1 (G.map eVals)], .cells [.str (Z ++ (G.take q).flatMap rowB)]]) (fun q => q ≤ G.length ∧ ((G.take q).flatMap rowB).length ≤ q * 1000) (fun q => G.length - q) (0) ?_ ?_ ?_ ?_
    · simp
    · simp only [List.take_zero, List.flatMap_nil, List.append_nil]
    · exact at_
    rintro i' r' ⟨f1, f2⟩
    try dsimp only at f1 f2
    by_cases hi' : i' < G.length
    · have hv := o7 _ (getD_mem hi')
      have hpl := plain_row (z7 _ (getD_mem hi'))
      have hsn := fm_snoc rowB hi' Z
      obtain ⟨n, hne⟩ : ∃ n, G.getD i' default = n := ⟨_, rfl⟩
      rw [hne] at hv hsn hpl
      obtain ⟨xr, hxr⟩ : ∃ x, rowB n = x := ⟨_, rfl⟩
      have hsl := congrArg List.length hsn
      obtain ⟨y, hy⟩ : ∃ y, Z ++ (G.take i').flatMap rowB = y := ⟨_, rfl⟩
      have hyl := congrArg List.length hy
      simp only [List.length_append] at hsl hyl
      rw [hy] at hsn
      rw [hxr] at hsn hsl hpl
      have hadd := max_of (a := y.length) (b := xr.length) (by omega)
      repeat' first | simp (disch := omega) only [go_sem, hQr, hQn, hQp, wrapK_i64, wrapK_u8, wrapK_u64, Nat.reduceAdd, Nat.reduceBEq, ↓reduceIte, hne, hy] | refine go_ ?_ | with_reducible refine entry_text_1 hv hpl.1 hxr rfl hadd ?_ | refine br_ (fun hw => ?_) (fun hw => ?_) <;> try omega | fail
      refine ⟨i' + 1, ?_, ?_, ?_, ou_, at_⟩
      · exact ⟨by omega, by omega⟩
      · dsimp only; omega
      · dsimp only; rw [hsn]
    · have ht' : G.take i' = G := List.take_of_length_le (by omega)
      repeat' first | simp (disch := omega) only [go_sem, hQr, hQn, hQp, wrapK_i64, wrapK_u8, wrapK_u64, Nat.reduceAdd, Nat.reduceBEq, ↓reduceIte, ht'] | refine go_ ?_ | refine br_ (fun hw => ?_) (fun hw => ?_) <;> try omega | fail
      exact leafE (by rw [← hE]) rfl
end Go.Proofs.YtmbgnaoilncbnaaGreat
namespace Go.Proofs.YtmbgnaoilncbnaaGreat
open Go.AM
set_option maxRecDepth 4000
set_option maxHeartbeats 4000000 in
theorem ref21_text (e : Ent) (ok : okEnt e) (h : rightE e = true) : CallF Tryz.prog n_ref21_text [eEnt e] (.str (textE e)) := by
  obtain ⟨z1, z2, z3, z4, z5, z6, z7⟩ := rightE_all h
  obtain ⟨o1, o2, o3, o4, o5, o6, o7⟩ := ok
  have hl := rise_len z4
  have hn16 := nameS_16 z1
  have p1 := plain_row z6
  have c1 := ref01_Text e.table (by omega)
  have c2 := ref01_Num e.ver o2
  have c3 := ref01_Num e.err o4
  have c4 := ref01_Num e.rules.length ⟨by omega, by omega⟩
  have c5 := ref01_Num e.rows.length ⟨by omega, by omega⟩
  have c7 := ref12_Row e.input o3 p1.1
  have l1 := textB_len e.table
  have l2 := numB_len e.ver
  have l3 := numB_len e.err
  have l4 := numB_len e.rules.length
  have l5 := numB_len e.rows.length
  obtain ⟨E, hE⟩ : ∃ E, textE e = E := ⟨_, rfl⟩
  rw [hE]
  unfold textE at hE
  rw [← List.append_assoc (textB e.table ++ numB e.ver ++ rowB e.input)] at hE
  obtain ⟨A, B, C, D, F, G⟩ := e
  dsimp only at *
  generalize rowB C = xc at *
  generalize textB A = xa at *
  generalize numB B = xb at *
  generalize numB D = xd at *
  generalize numB F.length = xf at *
  generalize numB G.length = xg at *
  have a1 := max_of (a := xa.length) (b := xb.length) (by omega)
  have a2 := max_of (a := xa.length + xb.length) (b := xc.length) (by omega)
  have a3 := max_of (a := xa.length + xb.length + xc.length) (b := xd.length) (by omega)
  have a4 := max_of (a := xa.length + xb.length + xc.length + xd.length) (b := xf.length) (by omega)
  obtain ⟨X, hX⟩ : ∃ x, xa ++ xb ++ xc ++ xd ++ xf = x := ⟨_, rfl⟩
  have lX := congrArg List.length hX
  simp only [List.length_append] at lX
  rw [hX] at hE
  simp only [eInts, eVals, eRows, eEnt, cEnt] at c1 c2 c3 c4 c5 c7 ⊢
  refine CallF.of_nil (of_ref21_text (by simp) ?_) (by simp)
  unfold b_ref21_text WpR
  intro Q hQr hQn hQp
  try dsimp (config := { zeta := true }) only
  repeat' first | simp (disch := omega) only [go_sem, hQr, hQn, hQp, wrapK_i64, wrapK_u8, wrapK_u64, Nat.reduceAdd, Nat.reduceBEq, ↓reduceIte, List.length_append, hX] | refine go_ ?_ | refine cf_ c1 ?_ | refine cf_ c2 ?_ | refine cf_ c3 ?_ | refine cf_ c4 ?_ | refine cf_ c7 ?_ | refine br_ (fun hw => ?_) (fun hw => ?_) <;> try omega | fail
  with_reducible refine loop_i [3, 4, 28, 29, 30, 31, 32, 33, 34, 35, 36, 37, 38, 39, 40, 41, 42, 43, 44] (fun q : Nat => [(4, I q), (3, .str (X ++ (F.take q).flatMap numB))]) (fun _ => [.cells [.str A, I B, .lst false EV (C.map eVal), I D, .lst false E1 (F.map eInt), .lst false E1 (G.map eVals)]]) (fun q => q ≤ F.length ∧ ((F.take q).flatMap numB).length ≤ q * 10) (fun q => F.length - q) (0) ?_ ?_ ?_ ?_
  · simp
  · rfl
  · simp only [List.take_zero, List.flatMap_nil, List.append_nil]; simp (disch := omega) only [at_nil, at_cons, and_true, go_sem, hQr, hQn, hQp, wrapK_i64, wrapK_u8, wrapK_u64, Nat.reduceAdd, Nat.reduceBEq, ↓reduceIte, Int.natCast_add, Int.cast_ofNat_Int] <;> (try trivial) <;> (try omega) <;> (try (repeat (first | trivial | (refine And.intro ?_ ?_) | (congr 1; omega))))
  rintro i r ⟨g1, g2⟩
  by_cases hi : i < F.length
  · have hn := o5.2 _ (getD_mem hi)
    have hsn := fm_snoc numB hi X
    obtain ⟨n, hne⟩ : ∃ n, F.getD i default = n := ⟨_, rfl⟩
    rw [hne] at hn hsn
    have c6 := ref01_Num n hn
    have l6 := numB_len n
    have hsl := congrArg List.length hsn
    obtain ⟨y, hy⟩ : ∃ y, X ++ (F.take i).flatMap numB = y := ⟨_, rfl⟩
    have hyl := congrArg List.length hy
    simp only [List.length_append] at hsl hyl
    rw [hy] at hsn
    have hadd := max_of (a := y.length) (b := (numB n).length) (by omega)
    repeat' first | simp (disch := omega) only [go_sem, hQr, hQn, hQp, wrapK_i64, wrapK_u8, wrapK_u64, Nat.reduceAdd, Nat.reduceBEq, ↓reduceIte, hne, hy] | refine go_ ?_ | refine cf_ c6 ?_ | refine br_ (fun hw => ?_) (fun hw => ?_) <;> try omega | fail
    refine ⟨i + 1, ?_, ?_, ?_, ou_, ?_⟩
    · exact ⟨by omega, by omega⟩
    · dsimp only; omega
    · first | rfl | (simp [go_sem]; done)
    · dsimp only; rw [hsn]; simp (disch := omega) only [at_nil, at_cons, and_true, go_sem, hQr, hQn, hQp, wrapK_i64, wrapK_u8, wrapK_u64, Nat.reduceAdd, Nat.reduceBEq, ↓reduceIte, Int.natCast_add, Int.cast_ofNat_Int] <;> (try trivial) <;> (try omega) <;> (try (repeat (first | trivial | (refine And.intro ?_ ?_) | (congr 1; omega))))
  · have ht : F.take i = F := List.take_of_length_le (by omega)
    rw [ht] at g2
    obtain ⟨Y, hY⟩ : ∃ y, X ++ F.flatMap numB = y := ⟨_, rfl⟩
    have lY := congrArg List.length hY
    simp only [List.length_append] at lY
    have a5 := max_of (a := Y.length) (b := xg.length) (by omega)
    rw [hY] at hE
    obtain ⟨Z, hZ⟩ : ∃ y, Y ++ xg = y := ⟨_, rfl⟩
    have lZ := congrArg List.length hZ
    simp only [List.length_append] at lZ
    rw [hZ] at hE
    repeat' first | simp (disch := omega) only [go_sem, hQr, hQn, hQp, wrapK_i64, wrapK_u8, wrapK_u64, Nat.reduceAdd, Nat.reduceBEq, ↓reduceIte, ht, hY, hZ] | refine go_ ?_ | refine cf_ c5 ?_ | refine br_ (fun hw => ?_) (fun hw => ?_) <;> try omega | fail
    with_reducible refine loop_i [3, 5, 52, 53, 54, 55, 56, 57, 58, 59, 60, 61, 62, 63, 64, 65, 66, 67, 68] (fun q : Nat => [(5, I q), (3, .str (Z ++ (G.take q).flatMap rowB))]) (fun _ => [.cells [.str A, I B, .lst false EV (C.map eVal), I D, .lst false E1 (F.map eInt), .lst false E1 (G.map eVals)]]) (fun q => q ≤ G.length ∧ ((G.take q).flatMap rowB).length ≤ q * 1000) (fun q => G.length - q) (0) ?_ ?_ ?_ ?_
    · simp
    · rfl
    · simp only [List.take_zero, List.flatMap_nil, List.append_nil]; simp (disch := omega) only [at_nil, at_cons, and_true, go_sem, hQr, hQn, hQp, wrapK_i64, wrapK_u8, wrapK_u64, Nat.reduceAdd, Nat.reduceBEq, ↓reduceIte, Int.natCast_add, Int.cast_ofNat_Int] <;> (try trivial) <;> (try omega) <;> (try (repeat (first | trivial | (refine And.intro ?_ ?_) | (congr 1; omega))))
    rintro i' r' ⟨f1, f2⟩
    by_cases hi' : i' < G.length
    · have hv := o7 _ (getD_mem hi')
      have hpl := plain_row (z7 _ (getD_mem hi'))
      have hsn := fm_snoc rowB hi' Z
      obtain ⟨n, hne⟩ : ∃ n, G.getD i' default = n := ⟨_, rfl⟩
      rw [hne] at hv hsn hpl
      have c8 := ref12_Row n hv hpl.1
      generalize rowB n = xr at *
      have hsl := congrArg List.length hsn
      obtain ⟨y, hy⟩ : ∃ y, Z ++ (G.take i').flatMap rowB = y := ⟨_, rfl⟩
      have hyl := congrArg List.length hy
      simp only [List.length_append] at hsl hyl
      rw [hy] at hsn
      have hadd := max_of (a := y.length) (b := xr.length) (by omega)
      simp only [eVals] at c8
      repeat' first | simp (disch := omega) only [go_sem, hQr, hQn, hQp, wrapK_i64, wrapK_u8, wrapK_u64, Nat.reduceAdd, Nat.reduceBEq, ↓reduceIte, hne, hy] | refine go_ ?_ | refine cf_ c8 ?_ | refine br_ (fun hw => ?_) (fun hw => ?_) <;> try omega | fail
      refine ⟨i' + 1, ?_, ?_, ?_, ou_, ?_⟩
      · exact ⟨by omega, by omega⟩
      · dsimp only; omega
      · first | rfl | (simp [go_sem]; done)
      · dsimp only; rw [hsn]; simp (disch := omega) only [at_nil, at_cons, and_true, go_sem, hQr, hQn, hQp, wrapK_i64, wrapK_u8, wrapK_u64, Nat.reduceAdd, Nat.reduceBEq, ↓reduceIte, Int.natCast_add, Int.cast_ofNat_Int] <;> (try trivial) <;> (try omega) <;> (try (repeat (first | trivial | (refine And.intro ?_ ?_) | (congr 1; omega))))
    · have ht' : G.take i' = G := List.take_of_length_le (by omega)
      repeat' first | simp (disch := omega) only [go_sem, hQr, hQn, hQp, wrapK_i64, wrapK_u8, wrapK_u64, Nat.reduceAdd, Nat.reduceBEq, ↓reduceIte, ht'] | refine go_ ?_ | refine br_ (fun hw => ?_) (fun hw => ?_) <;> try omega | fail
      exact leafE (by rw [← hE]) rfl
theorem entry_Check (e : Ent) (ok : okEnt e) : CallF Tryz.prog n_entry_Check [eEnt e] (I (checkE e)) := by
  have c1 := entry_right e ok
  have c2 := fun h => entry_text e ok h
  unfold checkE
  generalize rightE e = b at *
  cases b with
  | false =>
    simp only [eEnt, cEnt, eInts, eVals, eRows] at c1 ⊢
    refine CallF.of_nil (of_entry_Check (by simp) ?_) (by simp)
    unfold b_entry_Check WpR
    intro Q hQr hQn hQp
    repeat' first | refine go_ ?_ | refine cf_ c1 ?_ | refine br_ (fun hw => ?_) (fun hw => ?_) <;> try omega | fail
    all_goals first | exact ab_ | exact leafE rfl rfl
  | true =>
    have c2 := c2 rfl
    generalize textE e = t at *
    rw [if_neg (by simp)]
    simp only [eEnt, cEnt, eInts, eVals, eRows] at c1 c2 ⊢
    refine CallF.of_nil (of_entry_Check (by simp) ?_) (by simp)
    unfold b_entry_Check WpR
    intro Q hQr hQn hQp
    repeat' first | refine go_ ?_ | refine cf_ c1 ?_ | refine cf_ c2 ?_ | refine br_ (fun hw => ?_) (fun hw => ?_) <;> try omega | fail
    · exact leafE (by rw [if_pos (by omega)]) rfl
    · exact leafE (by rw [if_neg (by omega)]) rfl
theorem ref21_Check (e : Ent) (ok : okEnt e) : CallF Tryz.prog n_ref21_Check [eEnt e] (I (checkE e)) := by
  have c1 := ref21_Right e ok
  have c2 := fun h => ref21_text e ok h
  unfold checkE
  generalize rightE e = b at *
  cases b with
  | false =>
    simp only [eEnt, cEnt, eInts, eVals, eRows] at c1 ⊢
    refine CallF.of_nil (of_ref21_Check (by simp) ?_) (by simp)
    unfold b_ref21_Check WpR
    intro Q hQr hQn hQp
    repeat' first | refine go_ ?_ | refine cf_ c1 ?_ | refine br_ (fun hw => ?_) (fun hw => ?_) <;> try omega | fail
    all_goals first | exact ab_ | exact leafE rfl rfl
  | true =>
    have c2 := c2 rfl
    generalize textE e = t at *
    rw [if_neg (by simp)]
    simp only [eEnt, cEnt, eInts, eVals, eRows] at c1 c2 ⊢
    refine CallF.of_nil (of_ref21_Check (by simp) ?_) (by simp)
    unfold b_ref21_Check WpR
    intro Q hQr hQn hQp
    repeat' first | refine go_ ?_ | refine cf_ c1 ?_ | refine cf_ c2 ?_ | refine br_ (fun hw => ?_) (fun hw => ?_) <;> try omega | fail
    · exact leafE (by rw [if_pos (by omega)]) rfl
    · exact leafE (by rw [if_neg (by omega)]) rfl
def eBE (p : Str × Int) : AV := .tup [.str p.1, I p.2]
theorem entry_Bytes (e : Ent) (ok : okEnt e) : CallF Tryz.prog n_entry_Bytes [eEnt e] (eBE (bytesE e)) := by
  have c1 := entry_Check e ok
  have hz := @checkE_zero e
  have c2 := fun h => entry_text e ok h
  unfold bytesE
  generalize checkE e = k at *
  by_cases h0 : k ≠ 0
  · rw [if_pos h0]
    simp only [eBE, eEnt, cEnt, eInts, eVals, eRows] at c1 ⊢
    refine CallF.of_nil (of_entry_Bytes (by simp) ?_) (by simp)
    unfold b_entry_Bytes WpR
    intro Q hQr hQn hQp
    repeat' first | refine go_ ?_ | refine cf_ c1 ?_ | refine br_ (fun hw => ?_) (fun hw => ?_) <;> try omega | fail
    all_goals first | exact ab_ | exact leafNE rfl rfl
  rw [if_neg h0]
  obtain rfl : k = 0 := by omega
  have c2 := c2 (hz rfl).1
  generalize textE e = t at *
  simp only [eBE, eEnt, cEnt, eInts, eVals, eRows] at c1 c2 ⊢
  refine CallF.of_nil (of_entry_Bytes (by simp) ?_) (by simp)
  unfold b_entry_Bytes WpR
  intro Q hQr hQn hQp
  repeat' first | refine go_ ?_ | refine cf_ c1 ?_ | refine cf_ c2 ?_ | refine br_ (fun hw => ?_) (fun hw => ?_) <;> try omega | fail
  all_goals first | exact ab_ | exact leafNE rfl rfl
theorem ref21_Bytes (e : Ent) (ok : okEnt e) : CallF Tryz.prog n_ref21_Bytes [eEnt e] (eBE (bytesE e)) := by
  have c1 := ref21_Check e ok
  have hz := @checkE_zero e
  have c2 := fun h => ref21_text e ok h
  unfold bytesE
  generalize checkE e = k at *
  by_cases h0 : k ≠ 0
  · rw [if_pos h0]
    simp only [eBE, eEnt, cEnt, eInts, eVals, eRows] at c1 ⊢
    refine CallF.of_nil (of_ref21_Bytes (by simp) ?_) (by simp)
    unfold b_ref21_Bytes WpR
    intro Q hQr hQn hQp
    repeat' first | refine go_ ?_ | refine cf_ c1 ?_ | refine br_ (fun hw => ?_) (fun hw => ?_) <;> try omega | fail
    all_goals first | exact ab_ | exact leafNE rfl rfl
  rw [if_neg h0]
  obtain rfl : k = 0 := by omega
  have c2 := c2 (hz rfl).1
  generalize textE e = t at *
  simp only [eBE, eEnt, cEnt, eInts, eVals, eRows] at c1 c2 ⊢
  refine CallF.of_nil (of_ref21_Bytes (by simp) ?_) (by simp)
  unfold b_ref21_Bytes WpR
  intro Q hQr hQn hQp
  repeat' first | refine go_ ?_ | refine cf_ c1 ?_ | refine cf_ c2 ?_ | refine br_ (fun hw => ?_) (fun hw => ?_) <;> try omega | fail
  all_goals first | exact ab_ | exact leafNE rfl rfl
end Go.Proofs.YtmbgnaoilncbnaaGreat
