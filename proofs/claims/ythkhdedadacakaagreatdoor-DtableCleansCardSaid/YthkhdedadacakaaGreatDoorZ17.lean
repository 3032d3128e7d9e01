/- Part of a proof: see Root. -/
import Derived.Test.YthkhdedadacakaaGreatDoorZ16
set_option linter.unnecessarySimpa false
set_option linter.unusedSimpArgs false
set_option linter.unusedVariables false
namespace Go.Proofs.YthkhdedadacakaaGreatDoor
open Go.AM
set_option maxRecDepth 4000
theorem ref13_letter (c : UInt8) : CallF Tryz.prog n_ref13_letter [.int .u8 c.toNat] (.bool (letterB c)) := by
  refine CallF.of_nil (of_ref13_letter (by simp) ?_) rfl
  unfold b_ref13_letter WpR
  intro Q hQr hQn hQp
  repeat' first | refine go_ ?_ | refine br_ (fun hw => ?_) (fun hw => ?_) <;> try omega | fail
  all_goals refine leafE ?_ rfl
  all_goals (refine congrArg AV.bool ?_; rw [Bool.eq_iff_iff]; simp only [letterB, Bool.and_eq_true, Bool.or_eq_true, decide_eq_true_eq, beq_iff_eq, Bool.not_eq_true', decide_eq_false_iff_not, beq_eq_false_iff_ne, ne_eq, true_iff, false_iff, iff_true, iff_false, Bool.false_eq_true, Bool.true_eq_false, not_and, not_or] at *; omega)
theorem ref13_digit (c : UInt8) : CallF Tryz.prog n_ref13_digit [.int .u8 c.toNat] (.bool (digitB c)) := by
  refine CallF.of_nil (of_ref13_digit (by simp) ?_) rfl
  unfold b_ref13_digit WpR
  intro Q hQr hQn hQp
  repeat' first | refine go_ ?_ | refine br_ (fun hw => ?_) (fun hw => ?_) <;> try omega | fail
  all_goals refine leafE ?_ rfl
  all_goals (refine congrArg AV.bool ?_; rw [Bool.eq_iff_iff]; simp only [digitB, Bool.and_eq_true, Bool.or_eq_true, decide_eq_true_eq, beq_iff_eq, Bool.not_eq_true', decide_eq_false_iff_not, beq_eq_false_iff_ne, ne_eq, true_iff, false_iff, iff_true, iff_false, Bool.false_eq_true, Bool.true_eq_false, not_and, not_or] at *; omega)
theorem wordN_step (s : Str) (i : Nat) (hi : i < s.length) (h : wordN s = (if i = 0 then wordN s else i + ((s.drop i).takeWhile wordB).length)) :
    (letterB (s.getD i 0) = true ∨ 0 < i ∧ digitB (s.getD i 0) = true → wordN s = (i + 1) + ((s.drop (i + 1)).takeWhile wordB).length) ∧
    (¬ (letterB (s.getD i 0) = true ∨ 0 < i ∧ digitB (s.getD i 0) = true) → wordN s = i) := by
  by_cases h0 : i = 0
  · subst h0
    cases s with
    | nil => simp at hi
    | cons c r =>
      simp only [List.getD_cons_zero, Nat.lt_irrefl, false_and, or_false]
      refine ⟨fun hl => ?_, fun hl => ?_⟩
      · simp only [wordN, hl, if_true, List.takeWhile_cons, wordB, Bool.true_or, Nat.zero_add, List.drop_succ_cons, List.drop_zero]
        simp; omega
      · simp only [wordN, hl]; rfl
  · rw [if_neg h0, takeWhile_at hi] at h
    refine ⟨fun hl => ?_, fun hl => ?_⟩
    · have : wordB (s.getD i 0) = true := by
        simp only [wordB, Bool.or_eq_true]; rcases hl with h1 | h1
        · exact .inl h1
        · exact .inr h1.2
      rw [this, if_pos rfl] at h; omega
    · have : wordB (s.getD i 0) = false := by
        simp only [wordB, Bool.or_eq_false_iff]
        simp only [not_or, not_and, Bool.not_eq_true] at hl
        exact ⟨hl.1, hl.2 (by omega)⟩
      rw [this, if_neg (by simp)] at h; omega
def WInv (s : Str) (i : Nat) : Prop := wordN s = (if i = 0 then wordN s else i + ((s.drop i).takeWhile wordB).length)
theorem ref13_word (s : Str) (hs : s.length ≤ 2 ^ 62) : CallF Tryz.prog n_ref13_word [.str s] (I (wordN s)) := by
  refine CallF.of_nil (of_ref13_word (by simp) ?_) rfl
  unfold b_ref13_word WpR
  intro Q hQr hQn hQp
  repeat' first | refine go_ ?_ | refine br_ (fun hw => ?_) (fun hw => ?_) <;> try omega | fail
  with_reducible refine loop_i [3, 4, 5, 6, 7, 8, 9, 10, 11, 12, 13, 14, 15, 16, 17, 18, 19, 20, 21, 22, 23, 24, 25] (fun i : Nat => [(3, I i)]) (fun _ => []) (fun i => i ≤ s.length ∧ WInv s i) (fun i => s.length - i) (0) ?_ ?_ ?_ ?_
  · simp [WInv]
  · rfl
  · exact at_
  rintro i r ⟨h1, h2⟩
  by_cases hi : i < s.length
  · repeat' first | refine go_ ?_ | refine cf_ (ref13_letter _) ?_ | refine cf_ (ref13_digit _) ?_ | refine br_ (fun hw => ?_) (fun hw => ?_) <;> try omega | fail
    · refine ⟨i + 1, ?_, ?_, by first | rfl | (simp [go_sem]; done), ou_, at_⟩ <;> (try dsimp only)
      · refine ⟨by omega, ?_⟩
        have := (wordN_step s i hi h2).1 (.inr ⟨by omega, hw⟩)
        unfold WInv; rw [if_neg (by omega)]; exact this
      · omega
    · refine leafE ?_ rfl
      rw [(wordN_step s i hi h2).2 (by rintro (h | h); exact ne_true_of_eq_false ‹letterB _ = false› h; exact ne_true_of_eq_false hw h.2)]
    · refine leafE ?_ rfl
      rw [(wordN_step s i hi h2).2 (by rintro (h | h); exact ne_true_of_eq_false ‹letterB _ = false› h; omega)]
    · refine ⟨i + 1, ?_, ?_, by first | rfl | (simp [go_sem]; done), ou_, at_⟩ <;> (try dsimp only)
      · refine ⟨by omega, ?_⟩
        have := (wordN_step s i hi h2).1 (.inl hw)
        unfold WInv; rw [if_neg (by omega)]; exact this
      · omega
  · repeat' first | refine go_ ?_ | refine cf_ (ref13_letter _) ?_ | refine cf_ (ref13_digit _) ?_ | refine br_ (fun hw => ?_) (fun hw => ?_) <;> try omega | fail
    refine leafE ?_ rfl
    have : i = s.length := by omega
    unfold WInv at h2
    by_cases h0 : i = 0
    · subst h0
      have : s = [] := by cases s with | nil => rfl | cons => simp at this
      subst this; rfl
    · rw [if_neg h0, List.drop_of_length_le (by omega)] at h2
      rw [h2]; simp
theorem ref13_name (s : Str) (hs : s.length ≤ 2 ^ 62) : CallF Tryz.prog n_ref13_name [.str s] (eTP (nameP s)) := by
  refine CallF.of_nil (of_ref13_name (by simp) ?_) rfl
  unfold b_ref13_name WpR
  intro Q hQr hQn hQp
  have := wordN_le s
  repeat' first | refine go_ ?_ | refine cf_ (ref13_word _ hs) ?_ | refine br_ (fun hw => ?_) (fun hw => ?_) <;> try omega | fail
  all_goals refine leafNE ?_ rfl
  all_goals (unfold nameP; split <;> first | omega | rfl)
theorem ref13_Marks : CallF Tryz.prog n_ref13_Marks [] (eStrs marksL) := by
  refine CallF.of_nil (of_ref13_Marks (by simp) ?_) rfl
  unfold b_ref13_Marks WpR
  intro Q hQr hQn hQp
  repeat' first | refine go_ ?_ | refine br_ (fun hw => ?_) (fun hw => ?_) <;> try omega | fail
  all_goals exact leaf1 (View.weak _ _ _ (by simp))
theorem takeWhile_more {p : UInt8 → Bool} : ∀ {s : Str} {i : Nat}, i ≤ (s.takeWhile p).length → i < s.length → p (s.getD i 0) = true → i < (s.takeWhile p).length
  | [], i, _, h, _ => by simp at h
  | c :: r, 0, _, _, hp => by simp only [List.getD_cons_zero] at hp; simp [List.takeWhile_cons, hp]
  | c :: r, i + 1, h1, h2, hp => by
    simp only [List.getD_cons_succ] at hp
    simp only [List.takeWhile_cons] at h1 ⊢
    split at h1
    · simp only [List.length_cons] at h1 h2 ⊢
      have := takeWhile_more (p := p) (s := r) (i := i) (by omega) (by omega) hp
      split <;> simp_all
    · simp at h1
def NInv (s : Str) (i : Nat) (v : Int) (over : Bool) : Prop := i ≤ (s.takeWhile digitB).length ∧ (over = false → numF (s.takeWhile digitB) 0 = numF ((s.takeWhile digitB).drop i) v) ∧ (over = true → numF (s.takeWhile digitB) 0 = none)
theorem NInv.step {s : Str} {i : Nat} {v : Int} (h : NInv s i v false) (hi : i < s.length) (hd : digitB (s.getD i 0) = true) :
    (v > (9223372036854775807 - (((s.getD i 0).toNat : Int) - 48)) / 10 → NInv s (i + 1) v true) ∧
    (¬ v > (9223372036854775807 - (((s.getD i 0).toNat : Int) - 48)) / 10 → NInv s (i + 1) (v * 10 + (((s.getD i 0).toNat : Int) - 48)) false) := by
  obtain ⟨h1, h2, _⟩ := h
  have hlt : i < (s.takeWhile digitB).length := takeWhile_more h1 hi hd
  have h3 := takeWhile_getD hlt
  have h4 : (s.takeWhile digitB).drop i = s.getD i 0 :: (s.takeWhile digitB).drop (i + 1) := by rw [drop_at0 hlt, ← h3.1]
  rw [h4] at h2
  simp only [numF] at h2
  refine ⟨fun hv => ⟨by omega, fun h => by simp at h, fun _ => ?_⟩, fun hv => ⟨by omega, fun _ => ?_, fun h => by simp at h⟩⟩
  · rw [h2 trivial, if_pos hv]
  · rw [h2 trivial, if_neg hv]
theorem NInv.over {s : Str} {i : Nat} {v : Int} (h : NInv s i v true) (hi : i < s.length) (hd : digitB (s.getD i 0) = true) : NInv s (i + 1) v true :=
  ⟨takeWhile_more h.1 hi hd, fun h => by simp at h, h.2.2⟩
theorem NInv.fin {s : Str} {i : Nat} {v : Int} {o : Bool} (h : NInv s i v o) (hi : i < s.length → digitB (s.getD i 0) = false) (hl : i ≤ s.length) : (s.takeWhile digitB).length = i ∧ numF (s.takeWhile digitB) 0 = if o then none else some v := by
  have hlen : (s.takeWhile digitB).length = i := by
    have h1 := h.1
    apply Nat.le_antisymm _ h1
    apply Nat.le_of_not_lt
    intro hlt
    have h3 := (takeWhile_getD hlt).2
    have : i < s.length := Nat.lt_of_lt_of_le hlt (takeWhile_le s)
    rw [hi this] at h3; cases h3
  refine ⟨hlen, ?_⟩
  cases o with
  | false => rw [h.2.1 rfl, List.drop_of_length_le (by omega)]; rfl
  | true => rw [h.2.2 rfl]; rfl
theorem numberP_def (s : Str) : numberP s = if 1 < (s.takeWhile digitB).length ∧ (s.getD 0 0).toNat = 48 then .err 11
  else match numF (s.takeWhile digitB) 0 with
    | none => .err 15
    | some v => ⟨2, [], v, (s.takeWhile digitB).length, 0⟩ := rfl
theorem ref13_number (s : Str) (hs : s.length ≤ 2 ^ 62) : CallF Tryz.prog n_ref13_number [.str s] (eTP (numberP s)) := by
  refine CallF.of_nil (of_ref13_number (by simp) ?_) rfl
  unfold b_ref13_number WpR
  intro Q hQr hQn hQp
  repeat' first | refine go_ ?_ | refine br_ (fun hw => ?_) (fun hw => ?_) <;> try omega | fail
  with_reducible refine loop_i [5, 6, 7, 8, 9, 10, 11, 12, 13, 14, 15, 16, 17, 18, 19, 20, 21, 22, 23, 24, 25, 26, 27, 28, 29, 30, 31, 32, 33, 34, 35, 36, 37, 38, 39] (fun p : Nat × Int × Bool => [(5, I p.1), (6, I p.2.1), (7, .bool p.2.2)]) (fun _ => [.cells [I 0, .str [], I 0, I 0]]) (fun p => p.1 ≤ s.length ∧ 0 ≤ p.2.1 ∧ p.2.1 ≤ 9223372036854775807 ∧ NInv s p.1 p.2.1 p.2.2) (fun p => s.length - p.1) ((0, 0, false)) ?_ ?_ ?_ ?_
  · exact ⟨by simp, by simp, by simp, by simp, fun _ => rfl, fun h => by simp at h⟩
  · rfl
  · exact at_
  rintro ⟨i, v, o⟩ r ⟨h1, h2, h3, h4⟩
  dsimp only at h1 h2 h3 h4
  by_cases hi : i < s.length
  · by_cases hd : digitB (s.getD i 0) = true
    · have hb : 48 ≤ (s.getD i 0).toNat ∧ (s.getD i 0).toNat ≤ 57 := by simpa [digitB] using hd
      have hc := hd ▸ ref13_digit (s.getD i 0)
      cases o with
      | true =>
        repeat' first | refine go_ ?_ | refine cf_ hc ?_ | refine br_ (fun hw => ?_) (fun hw => ?_) <;> try omega | fail
        refine ⟨(i + 1, v, true), ?_, ?_, by first | rfl | (simp [go_sem]; done), ou_, at_⟩ <;> (try dsimp only)
        · exact ⟨by omega, h2, h3, h4.over hi hd⟩
        · omega
      | false =>
        have hst := h4.step hi hd
        repeat' first | refine go_ ?_ | refine cf_ hc ?_ | refine br_ (fun hw => ?_) (fun hw => ?_) <;> try omega | fail
        · refine ⟨(i + 1, 10 * v + (((s.getD i 0).toNat : Int) - 48), decide ((9223372036854775807 - (((s.getD i 0).toNat : Int) - 48)) / 10 < v)), ?_, ?_, by first | rfl | (simp [go_sem]; done), ou_, at_⟩ <;> (try dsimp only)
          · exact ⟨by omega, by omega, by omega, by rw [decide_eq_false (by omega), Int.mul_comm]; exact hst.2 (by omega)⟩
          · omega
        · refine ⟨(i + 1, v, decide ((9223372036854775807 - (((s.getD i 0).toNat : Int) - 48)) / 10 < v)), ?_, ?_, by first | rfl | (simp [go_sem]; done), ou_, at_⟩ <;> (try dsimp only)
          · exact ⟨by omega, h2, h3, by rw [decide_eq_true (by omega)]; exact hst.1 (by omega)⟩
          · omega
    · have hd' : digitB (s.getD i 0) = false := by simpa using hd
      have hc := hd' ▸ ref13_digit (s.getD i 0)
      obtain ⟨f1, f2⟩ := h4.fin (fun _ => hd') (by omega)
      have f3 := numberP_def s
      rw [f1, f2] at f3
      clear h4 hd hd' f1 f2
      repeat' first | refine go_ ?_ | refine cf_ hc ?_ | refine br_ (fun hw => ?_) (fun hw => ?_) <;> try omega | fail
      all_goals (refine leafNE ?_ rfl; rw [f3])
      all_goals (split <;> first | omega | (cases o <;> simp_all [PR.err]))
  · obtain ⟨f1, f2⟩ := h4.fin (fun h => absurd h hi) h1
    have f3 := numberP_def s
    rw [f1, f2] at f3
    clear h4 f1 f2
    repeat' first | refine go_ ?_ | refine br_ (fun hw => ?_) (fun hw => ?_) <;> try omega | fail
    all_goals (refine leafNE ?_ rfl; rw [f3])
    all_goals (split <;> first | omega | (cases o <;> simp_all [PR.err]))
theorem ref13_text (s : Str) (h0 : s ≠ []) (hs : s.length ≤ 2 ^ 30) : CallF Tryz.prog n_ref13_text [.str s] (eTP (textF (s.drop 1) [] 1)) := by
  refine CallF.of_nil (of_ref13_text (by simp) ?_) rfl
  unfold b_ref13_text WpR
  intro Q hQr hQn hQp
  have hl : 1 ≤ s.length := by cases s with | nil => exact absurd rfl h0 | cons => simp
  generalize hT : textF (s.drop 1) [] 1 = T at *
  repeat' first | refine go_ ?_ | refine br_ (fun hw => ?_) (fun hw => ?_) <;> try omega | fail
  with_reducible refine loop_i [3, 4, 5, 6, 7, 8, 9, 10, 11, 12, 13, 14, 15, 16, 17, 18, 19, 20, 21, 22, 23, 24, 25, 26, 27, 28, 29, 30, 31, 32, 33, 34, 35, 36, 37, 38, 39, 40, 41, 42, 43, 44, 45, 46, 47, 48, 49, 50, 51, 52, 53, 54, 55, 56, 57, 58, 59, 60, 61, 62, 63, 64, 65] (fun p : Nat × Str => [(6, I p.1), (5, .str p.2)]) (fun p => [.cells [I 0, .str [], I 0, I 0]]) (fun p => 1 ≤ p.1 ∧ p.1 ≤ s.length ∧ p.2.length ≤ p.1 ∧ T = textF (s.drop p.1) p.2 p.1) (fun p => s.length - p.1) ((1, [])) ?_ ?_ ?_ ?_
  · exact ⟨Nat.le_refl _, hl, by simp, hT.symm⟩
  · rfl
  · exact at_
  · rintro ⟨i, b⟩ r ⟨hi1, hi, hb, hf⟩
    simp only at hi1 hi hb hf
    have hone : ∀ k, k < s.length → List.take 1 (s.drop k) = [s.getD k 0] := fun k hk => by rw [drop_at0 hk]; rfl
    by_cases hin : i < s.length
    · rw [drop_at0 hin] at hf
      repeat' first | refine go_ ?_ | refine br_ (fun hw => ?_) (fun hw => ?_) <;> try omega | fail
      · refine leafNE ?_ rfl; rw [hf, textF_cons, if_pos (by omega), if_pos (by omega)]; rfl
      · refine leafNE ?_ rfl; rw [hf, textF_cons, if_pos (by omega), if_neg (by omega)]; simp
      · refine leafNE ?_ rfl; rw [hf, textF_cons, if_neg (by omega), if_pos (by omega), drop_at0 (by omega)]
        simp only
        rw [if_neg (by omega)]; rfl
      · rw [textF_cons, if_neg (by omega), if_pos (by omega), drop_at0 (by omega)] at hf
        try dsimp only at hf
        rw [if_pos (by omega)] at hf
        refine ⟨(i + 2, b ++ [s.getD (i + 1) 0]), ?_, ?_, by first | rfl | (simp [go_sem]; done), ou_, at_⟩ <;> (try dsimp only)
        · simp only [List.length_append, List.length_cons, List.length_nil]; exact ⟨by omega, by omega, by omega, hf⟩
        · omega
      · rw [textF_cons, if_neg (by omega), if_pos (by omega), drop_at0 (by omega)] at hf
        try dsimp only at hf
        rw [if_pos (by omega)] at hf
        refine ⟨(i + 2, b ++ [s.getD (i + 1) 0]), ?_, ?_, by first | rfl | (simp [go_sem]; done), ou_, at_⟩ <;> (try dsimp only)
        · simp only [List.length_append, List.length_cons, List.length_nil]; exact ⟨by omega, by omega, by omega, hf⟩
        · omega
      · refine leafNE ?_ rfl; rw [hf, textF_cons, if_neg (by omega), if_pos (by omega), List.drop_of_length_le (by omega)]
        rfl
      · refine leafNE ?_ rfl; rw [hf, textF_cons, if_neg (by omega), if_neg (by omega), if_neg (by simp only [printB, Bool.and_eq_true, decide_eq_true_eq]; omega)]; rfl
      · rw [textF_cons, if_neg (by omega), if_neg (by omega), if_pos (by simp only [printB, Bool.and_eq_true, decide_eq_true_eq]; omega)] at hf
        refine ⟨(i + 1, b ++ [s.getD i 0]), ?_, ?_, by first | rfl | (simp [go_sem]; done), ou_, at_⟩ <;> (try dsimp only)
        · simp only [List.length_append, List.length_cons, List.length_nil]; exact ⟨by omega, by omega, by omega, hf⟩
        · omega
      · refine leafNE ?_ rfl; rw [hf, textF_cons, if_neg (by omega), if_neg (by omega), if_neg (by simp only [printB, Bool.and_eq_true, decide_eq_true_eq]; omega)]; rfl
    · rw [List.drop_of_length_le (by omega)] at hf
      repeat' first | refine go_ ?_ | refine br_ (fun hw => ?_) (fun hw => ?_) <;> try omega | fail
      all_goals (refine leafNE ?_ rfl; rw [hf]; simp [textF, PR.err])
theorem find_at {α : Type} [Inhabited α] {p : α → Bool} {l : List α} {i : Nat} (hi : i < l.length) (h : ∀ k, k < i → p (l.getD k default) = false) (hp : p (l.getD i default) = true) : l.find? p = some (l.getD i default) := by
  have h1 := idxF_at hi h hp
  rcases find_idx p l with ⟨h2, h3⟩ | ⟨j, h2, h3, h4⟩
  · omega
  · have : j = i := by omega
    subst this; exact h4
theorem find_non {α : Type} [Inhabited α] {p : α → Bool} {l : List α} (h : ∀ k, k < l.length → p (l.getD k default) = false) : l.find? p = none := by
  have h1 := idxF_none h
  rcases find_idx p l with ⟨h2, h3⟩ | ⟨j, h2, h3, h4⟩
  · exact h3
  · omega
theorem any_at {α : Type} [Inhabited α] {p : α → Bool} {l : List α} {i : Nat} (hi : i < l.length) (hp : p (l.getD i default) = true) : l.any p = true := by
  rw [List.any_eq_true]; exact ⟨_, getD_mem hi, hp⟩
theorem any_non {α : Type} [Inhabited α] {p : α → Bool} {l : List α} (h : ∀ k, k < l.length → p (l.getD k default) = false) : l.any p = false := by
  rw [List.any_eq_false]
  intro x hx
  obtain ⟨k, hk, rfl⟩ := List.getElem_of_mem hx
  have := h k hk
  rw [List.getD_eq_getElem?_getD, List.getElem?_eq_getElem hk, Option.getD_some] at this
  simp [this]
theorem before_succ {q : Nat → Prop} {i : Nat} (h : ∀ k, k < i → q k) (hi : q i) : ∀ k, k < i + 1 → q k := fun k hk => by
  by_cases h2 : k < i
  · exact h k h2
  · have : k = i := by omega
    subst this; exact hi
theorem prefix_take {m s : Str} (h : m.length ≤ s.length) : (List.take m.length s == m) = m.isPrefixOf s := by
  rw [Bool.eq_iff_iff, beq_iff_eq, List.isPrefixOf_iff_prefix, List.prefix_iff_eq_take]; exact eq_comm
theorem prefix_long {m s : Str} (h : s.length < m.length) : m.isPrefixOf s = false := by
  rw [Bool.eq_false_iff]; intro h2
  have := (List.isPrefixOf_iff_prefix.1 h2).length_le
  omega
theorem ref13_one (s : Str) (h0 : s ≠ []) (hs : s.length ≤ 2 ^ 30) : CallF Tryz.prog n_ref13_one [.str s] (eTP (oneP s)) := by
  refine CallF.of_nil (of_ref13_one (by simp) ?_) rfl
  unfold b_ref13_one WpR
  intro Q hQr hQn hQp
  have hl : 1 ≤ s.length := by cases s with | nil => exact absurd rfl h0 | cons => simp
  repeat' first | refine go_ ?_ | refine cf_ (ref13_letter _) ?_ | refine cf_ (ref13_digit _) ?_ | with_reducible refine callL_f (ref13_name _ (by omega)) ?_ | with_reducible refine callD_f (ref13_name _ (by omega)) ?_ | with_reducible refine callL_f (ref13_number _ (by omega)) ?_ | with_reducible refine callD_f (ref13_number _ (by omega)) ?_ | refine cf_ (ref13_text _ h0 hs) ?_ | refine cf_ ref13_Marks ?_ | refine br_ (fun hw => ?_) (fun hw => ?_) <;> try omega | fail
  · refine leafNE ?_ rfl
    unfold oneP; dsimp only; rw [if_pos (by assumption)]
  · refine leafNE ?_ rfl
    unfold oneP; dsimp only; rw [if_neg (ne_true_of_eq_false (by assumption)), if_pos (by assumption)]
  · refine leafNE ?_ rfl
    unfold oneP; dsimp only; rw [if_neg (ne_true_of_eq_false (by assumption)), if_neg (ne_true_of_eq_false (by assumption)), if_pos (by omega)]
  have ho : oneP s = markP s := by
    unfold oneP; dsimp only; rw [if_neg (ne_true_of_eq_false (by assumption)), if_neg (ne_true_of_eq_false (by assumption)), if_neg (by omega)]
  rw [ho] at hQr hQn
  have hml : marksL.length = 16 := rfl
  with_reducible refine loop_i [3, 4, 6, 35, 36, 37, 38, 39, 40, 41, 42, 43, 44, 45, 46, 47, 48, 49, 50, 51, 52, 53, 54, 55, 56, 57, 58, 59, 60, 61, 62, 63, 64, 65, 66, 67, 68, 69, 70, 71, 72] (fun i : Nat => [(6, I i)]) (fun _ => [.cells [I 0, .str [], I 0, I 0]]) (fun i => i ≤ 16 ∧ ∀ k, k < i → (marksL.getD k default).isPrefixOf s = false) (fun i => 16 - i) 0 ?_ ?_ ?_ ?_
  · simp
  · rfl
  · exact at_
  rintro i r ⟨h1, h2⟩
  by_cases hi : i < 16
  · repeat' first | refine go_ ?_ | refine br_ (fun hw => ?_) (fun hw => ?_) <;> try omega | fail
    · have hp : (marksL.getD i default).isPrefixOf s = true := by rw [← prefix_take (by omega)]; simpa using hw
      refine leafNE ?_ rfl
      unfold markP; rw [find_at (p := fun m : Str => m.isPrefixOf s) hi h2 hp]
    · have hp : (marksL.getD i default).isPrefixOf s = false := by rw [← prefix_take (by omega)]; simpa using hw
      refine ⟨i + 1, ?_, ?_, by first | rfl | (simp [go_sem]; done), ou_, at_⟩ <;> (try dsimp only)
      · exact ⟨by omega, before_succ h2 hp⟩
      · omega
    · refine ⟨i + 1, ?_, ?_, by first | rfl | (simp [go_sem]; done), ou_, at_⟩ <;> (try dsimp only)
      · exact ⟨by omega, before_succ h2 (prefix_long (by omega))⟩
      · omega
  · repeat' first | refine go_ ?_ | refine br_ (fun hw => ?_) (fun hw => ?_) <;> try omega | fail
    refine leafNE ?_ rfl
    unfold markP; rw [find_non (p := fun m : Str => m.isPrefixOf s) (fun k hk => h2 k (by omega))]; rfl
theorem ref13_Reserved (s : Str) : CallF Tryz.prog n_ref13_Reserved [.str s] (.bool (reservedS s)) := by
  have hre : reservedS s = reservedL.any (fun x => x == s) := by
    unfold reservedS; rw [Bool.eq_iff_iff, List.contains_iff_mem, List.any_eq_true]; simp
  rw [hre]
  refine CallF.of_nil (of_ref13_Reserved (by simp) ?_) rfl
  unfold b_ref13_Reserved WpR
  intro Q hQr hQn hQp
  repeat' first | refine go_ ?_ | refine br_ (fun hw => ?_) (fun hw => ?_) <;> try omega | fail
  have e1 : reservedL.length = 9 := rfl
  have e2 : [AV.str [97, 110, 100], AV.str [111, 114], AV.str [110, 111, 116], AV.str [105, 102], AV.str [116, 104, 101, 110], AV.str [101, 108, 115, 101], AV.str [116, 114, 117, 101], AV.str [102, 97, 108, 115, 101], AV.str [110, 117, 108, 108]] = reservedL.map eStr := rfl
  rw [e2]
  with_reducible refine loop_i [2, 4, 6, 7, 8, 9, 10, 11, 12, 13, 14, 15, 16, 17] (fun i : Nat => [(4, I i)]) (fun _ => []) (fun i => i ≤ 9 ∧ ∀ k, k < i → (reservedL.getD k default == s) = false) (fun i => 9 - i) 0 ?_ ?_ ?_ ?_
  · simp
  · rfl
  · exact at_
  rintro i r ⟨h1, h2⟩
  by_cases hi : i < 9
  · repeat' first | refine go_ ?_ | refine br_ (fun hw => ?_) (fun hw => ?_) <;> try omega | fail
    · refine leafE ?_ rfl
      rw [any_at (p := fun x : Str => x == s) hi (by simpa using hw)]
    · refine ⟨i + 1, ?_, ?_, by first | rfl | (simp [go_sem]; done), ou_, at_⟩ <;> (try dsimp only)
      · exact ⟨by omega, before_succ h2 (by simpa using hw)⟩
      · omega
  · repeat' first | refine go_ ?_ | refine br_ (fun hw => ?_) (fun hw => ?_) <;> try omega | fail
    refine leafE ?_ rfl
    rw [any_non (p := fun x : Str => x == s) (fun k hk => h2 k (by omega))]
theorem ref13_Lex (s : Str) (hs : s.length ≤ 2 ^ 30) : CallF Tryz.prog n_ref13_Lex [.str s] (eLex (lexS s)) := by
  unfold lexS
  by_cases hbig : 200 < s.length
  · rw [if_pos hbig]
    refine CallF.of_nil (of_ref13_Lex (by simp) ?_) rfl
    unfold b_ref13_Lex WpR
    intro Q hQr hQn hQp
    repeat' first | refine go_ ?_ | refine br_ (fun hw => ?_) (fun hw => ?_) <;> try omega | fail
    refine leafN ?_
    exact vw_
  rw [if_neg hbig]
  generalize hT : lexF (s.length + 1) s 0 [] = T
  refine CallF.of_nil (of_ref13_Lex (by simp) ?_) rfl
  unfold b_ref13_Lex WpR
  intro Q hQr hQn hQp
  repeat' first | refine go_ ?_ | refine br_ (fun hw => ?_) (fun hw => ?_) <;> try omega | fail
  with_reducible refine loop_i [2, 3, 4, 5, 6, 7, 8, 9, 13, 14, 15, 16, 17, 18, 19, 20, 21, 22, 23, 24, 25, 26, 27, 28, 29, 30, 31, 32, 33, 34, 35, 36, 37, 38, 39, 40, 41, 42, 43] (fun p : Nat × List Tok × List AObj => [(6, I p.1), (5, .own ET 0 p.2.1.length 0 p.2.1.length)]) (fun p => .vec ET (p.2.1.map eTok) :: p.2.2) (fun p => p.1 ≤ s.length ∧ p.2.1.length ≤ p.1 ∧ ∃ f, s.length - p.1 < f ∧ T = lexF f (s.drop p.1) p.1 p.2.1) (fun p => s.length - p.1) (0, [], []) ?_ ?_ ?_ ?_
  · exact ⟨by simp, by simp, s.length + 1, by omega, hT.symm⟩
  · rfl
  · exact at_
  rintro ⟨p, acc, τ⟩ r ⟨k0, k1, f, k2, k3⟩
  dsimp only at k0 k1 k2 k3
  obtain ⟨f, rfl⟩ : ∃ g, f = g + 1 := ⟨f - 1, by omega⟩
  by_cases hp : p < s.length
  · rw [drop_at0 hp, lexF_cons] at k3
    have hne : s.drop p ≠ [] := by rw [drop_at0 hp]; simp
    have hlen : (s.drop p).length ≤ 2 ^ 30 := by rw [List.length_drop]; omega
    rw [← drop_at0 hp] at k3
    have hnx := ref13_one (s.drop p) hne hlen
    have hol := oneP_len hne
    rw [List.length_drop] at hol
    generalize oneP (s.drop p) = q at *
    obtain ⟨qk, qs, qn, ql, qe⟩ := q
    dsimp only at k3 hol
    repeat' first | refine go_ ?_ | refine cf_ hnx ?_ | refine br_ (fun hw => ?_) (fun hw => ?_) <;> try omega | fail
    · rw [if_pos (by omega)] at k3
      refine ⟨(p + 1, acc, τ), ?_, ?_, by first | rfl | (simp [go_sem]; done), ou_, at_⟩ <;> (try dsimp only)
      · exact ⟨by omega, by omega, f, by omega, k3⟩
      · omega
    · rw [if_neg (by omega), if_neg hw] at k3
      refine leafN ?_
      rw [k3]
      exact ViewL.cons (View.nils _) (ViewL.refl rfl)
    · rw [if_neg (by omega), if_pos hw, List.drop_drop] at k3
      refine ⟨(p + ql, acc ++ [⟨qk, qs, qn, p⟩], τ ++ [.cells [I qk, .str qs, I qn, I p]]), ?_, ?_, by first | rfl | (simp [go_sem]; done), ou_, at_⟩ <;> (try dsimp only)
      · exact ⟨by omega, by simp; omega, f, by omega, k3⟩
      · omega
  · rw [List.drop_of_length_le (by omega), lexF_nil] at k3
    repeat' first | refine go_ ?_ | refine br_ (fun hw => ?_) (fun hw => ?_) <;> try omega | fail
    refine leafN ?_
    rw [k3]
    exact ViewL.cons (View.vec rfl (by simp) (by simp) (purL_t _)) (ViewL.refl rfl)
theorem ref13_Name (s : Str) (hs : s.length ≤ 2 ^ 62) : CallF Tryz.prog n_ref13_Name [.str s] (.bool (nameS s)) := by
  refine CallF.of_nil (of_ref13_Name (by simp) ?_) rfl
  unfold b_ref13_Name WpR
  intro Q hQr hQn hQp
  repeat' first | refine go_ ?_ | refine cf_ (ref13_word _ hs) ?_ | refine cf_ (ref13_Reserved _) ?_ | refine br_ (fun hw => ?_) (fun hw => ?_) <;> try omega | fail
  all_goals refine leafE ?_ rfl
  all_goals (refine congrArg AV.bool ?_; simp [nameS]; try simp_all; try omega)
theorem all_at {s : Str} {p : UInt8 → Bool} {i : Nat} (hi : i < s.length) (hp : p (s.getD i 0) = false) : s.all p = false := by
  rw [List.all_eq_false]
  refine ⟨s.getD i 0, ?_, ne_true_of_eq_false hp⟩
  rw [List.getD_eq_getElem?_getD, List.getElem?_eq_getElem hi]; exact List.getElem_mem hi
theorem all_non {s : Str} {p : UInt8 → Bool} (h : ∀ k, k < s.length → p (s.getD k 0) = true) : s.all p = true := by
  rw [List.all_eq_true]
  intro x hx
  obtain ⟨k, hk, rfl⟩ := List.getElem_of_mem hx
  have := h k hk
  rwa [List.getD_eq_getElem?_getD, List.getElem?_eq_getElem hk] at this
theorem printB_iff (c : UInt8) : printB c = true ↔ 32 ≤ c.toNat ∧ c.toNat ≤ 126 := by simp [printB]
theorem printB_niff (c : UInt8) : printB c = false ↔ c.toNat < 32 ∨ 126 < c.toNat := by
  rw [← Bool.not_eq_true, printB_iff]; omega
theorem value_plain (s : Str) : CallF Tryz.prog n_value_plain [.str s] (.bool (plainS s)) := by
  refine CallF.of_nil (of_value_plain (by simp) ?_) rfl
  unfold b_value_plain WpR
  intro Q hQr hQn hQp
  repeat' first | refine go_ ?_ | refine br_ (fun hw => ?_) (fun hw => ?_) <;> try omega | fail
  · refine leafE ?_ rfl
    simp only [plainS]; rw [decide_eq_false (by omega), Bool.false_and]
  with_reducible refine loop_i [2, 4, 10, 11, 12, 13, 14, 15, 16, 17, 18] (fun i : Nat => []) (fun i => [.siter s i]) (fun i => i ≤ s.length ∧ ∀ k, k < i → printB (s.getD k 0) = true) (fun i => s.length - i) 0 ?_ ?_ ?_ ?_
  · simp
  · rfl
  · exact at_
  rintro i r ⟨h1, h2⟩
  by_cases hi : i < s.length
  · by_cases ha : (s.getD i 0).toNat < 128
    · repeat' first | refine go_ ?_ | refine br_ (fun hw => ?_) (fun hw => ?_) <;> try omega | fail
      · refine leafE ?_ rfl
        simp only [plainS]; rw [all_at (p := printB) hi ((printB_niff _).2 (.inr (by omega))), Bool.and_false]
      · refine ⟨i + 1, ?_, ?_, by first | rfl | (simp [go_sem]; done), ou_, at_⟩ <;> (try dsimp only)
        · exact ⟨by omega, before_succ h2 ((printB_iff _).2 ⟨by omega, by omega⟩)⟩
        · omega
      · refine leafE ?_ rfl
        simp only [plainS]; rw [all_at (p := printB) hi ((printB_niff _).2 (.inl (by omega))), Bool.and_false]
    · have hw2 := wideRune_ge hi (by omega)
      repeat' first | refine go_ ?_ | refine br_ (fun hw => ?_) (fun hw => ?_) <;> try omega | fail
      all_goals refine leafE ?_ rfl
      all_goals (simp only [plainS]; rw [all_at (p := printB) hi ((printB_niff _).2 (.inr (by omega))), Bool.and_false])
  · have : i = s.length := by omega
    repeat' first | refine go_ ?_ | refine br_ (fun hw => ?_) (fun hw => ?_) <;> try omega | fail
    refine leafE ?_ rfl
    simp only [plainS]; rw [decide_eq_true (by omega), all_non (fun k hk => h2 k (by omega))]; rfl
theorem ref12_Plain (s : Str) (hs : s.length ≤ 2 ^ 62) : CallF Tryz.prog n_ref12_Plain [.str s] (.bool (plainS s)) := by
  refine CallF.of_nil (of_ref12_Plain (by simp) ?_) rfl
  unfold b_ref12_Plain WpR
  intro Q hQr hQn hQp
  repeat' first | refine go_ ?_ | refine br_ (fun hw => ?_) (fun hw => ?_) <;> try omega | fail
  with_reducible refine loop_i [2, 3, 4, 5, 6, 7, 8, 9, 10, 11, 12, 13, 14, 15, 16, 17, 18, 19] (fun i : Nat => [(3, I i)]) (fun i => []) (fun i => i ≤ s.length ∧ ∀ k, k < i → printB (s.getD k 0) = true) (fun i => s.length - i) (0) ?_ ?_ ?_ ?_
  · simp
  · rfl
  · exact at_
  rintro i r ⟨h1, h2⟩
  by_cases hi : i < s.length
  · repeat' first | refine go_ ?_ | refine br_ (fun hw => ?_) (fun hw => ?_) <;> try omega | fail
    · refine leafE ?_ rfl
      simp only [plainS]; rw [all_at (p := printB) hi ((printB_niff _).2 (.inr (by omega))), Bool.and_false]
    · refine ⟨i + 1, ?_, ?_, by first | rfl | (simp [go_sem]; done), ou_, at_⟩ <;> (try dsimp only)
      · exact ⟨by omega, before_succ h2 ((printB_iff _).2 ⟨by omega, by omega⟩)⟩
      · omega
    · refine leafE ?_ rfl
      simp only [plainS]; rw [all_at (p := printB) hi ((printB_niff _).2 (.inl (by omega))), Bool.and_false]
  · repeat' first | refine go_ ?_ | refine br_ (fun hw => ?_) (fun hw => ?_) <;> try omega | fail
    refine leafE ?_ rfl
    simp only [plainS]; rw [all_non (fun k hk => h2 k (by omega)), Bool.and_true]
    refine congrArg AV.bool ?_
    rw [Bool.eq_iff_iff, decide_eq_true_eq, decide_eq_true_eq]; omega
theorem rightV_0 (n : Int) (s : Str) : rightV ⟨0, n, s⟩ = (decide (n = 0) && decide (s = [])) := rfl
theorem rightV_1 (n : Int) (s : Str) : rightV ⟨1, n, s⟩ = decide (s = []) := rfl
theorem rightV_2 (n : Int) (s : Str) : rightV ⟨2, n, s⟩ = (decide (n = 0) && plainS s) := rfl
theorem rightV_3 (n : Int) (s : Str) : rightV ⟨3, n, s⟩ = (decide (s = []) && (decide (n = 0) || decide (n = 1))) := rfl
theorem rightV_o (k n : Int) (s : Str) (h0 : k ≠ 0) (h1 : k ≠ 1) (h2 : k ≠ 2) (h3 : k ≠ 3) : rightV ⟨k, n, s⟩ = false := by
  simp [rightV, h0, h1, h2, h3]
def errB (b : Bool) : Int := if b then 0 else 2
theorem bv_andNot1 (x : BitVec 64) : x &&& ~~~ 1#64 = 0#64 ↔ x = 0#64 ∨ x = 1#64 := by
  constructor
  · intro h
    have hb : ∀ i, 1 ≤ i → i < 64 → x.getLsbD i = false := fun i h1 h2 => by
      have := congrArg (fun y => BitVec.getLsbD y i) h
      have h3 : (1#64).getLsbD i = false := by
        rw [BitVec.getLsbD_one]; simp; omega
      simp only [BitVec.getLsbD_and, BitVec.getLsbD_not, h3, h2, decide_true, Bool.not_false, Bool.and_true, BitVec.getLsbD_zero] at this
      exact this
    cases h0 : x.getLsbD 0 with
    | false =>
      left
      apply BitVec.eq_of_getLsbD_eq
      intro i hi
      by_cases hz : i = 0
      · subst hz; rw [h0]; rfl
      · rw [hb i (by omega) hi]; simp
    | true =>
      right
      apply BitVec.eq_of_getLsbD_eq
      intro i hi
      by_cases hz : i = 0
      · subst hz; rw [h0]; rfl
      · rw [hb i (by omega) hi, BitVec.getLsbD_one]; simp [hz]
  · rintro (rfl | rfl) <;> decide
theorem wrap64_zero (m : Nat) (h : m < 18446744073709551616) : IntKind.wrap .i64 m = 0 ↔ m = 0 := by
  simp only [IntKind.wrap, IntKind.bits, IntKind.signed]
  simp
  omega
theorem and1 (n : Int) (h : -9223372036854775808 ≤ n) (h' : n ≤ 9223372036854775807) : bitsO .andNot .i64 n 1 = 0 ↔ n = 0 ∨ n = 1 := by
  rw [bitsO_eq]
  show IntKind.wrap .i64 ((BitVec.ofInt 64 n &&& ~~~ BitVec.ofInt 64 1).toNat : Int) = 0 ↔ _
  rw [wrap64_zero _ (BitVec.isLt _)]
  have h1 : (BitVec.ofInt 64 n &&& ~~~ BitVec.ofInt 64 1).toNat = 0 ↔ BitVec.ofInt 64 n &&& ~~~ 1#64 = 0#64 := by
    rw [← BitVec.toNat_inj]; rfl
  rw [h1, bv_andNot1, ← BitVec.toNat_inj, ← BitVec.toNat_inj]
  simp only [BitVec.toNat_ofInt, BitVec.toNat_ofNat]
  omega
theorem value_Check (k n : Int) (s : Str) (h : -9223372036854775808 ≤ n) (h' : n ≤ 9223372036854775807) : CallF Tryz.prog n_value_Check [.agg [I k, I n, .str s]] (I (errB (rightV ⟨k, n, s⟩))) := by
  refine CallF.of_nil (of_value_Check (by simp) ?_) rfl
  unfold b_value_Check WpR
  intro Q hQr hQn hQp
  repeat' first | refine go_ ?_ | refine cf_ (value_plain _) ?_ | refine br_ (fun hw => ?_) (fun hw => ?_) <;> try omega | fail
  all_goals refine leafE ?_ rfl
  all_goals (refine congrArg I ?_; unfold errB; try rw [and1 n h h'] at hw)
  all_goals (try subst k)
  all_goals first
    | (rw [if_neg (by rw [rightV_0]; simp_all)]; done)
    | (rw [if_pos (by rw [rightV_0]; simp_all)]; done)
    | (rw [if_neg (by rw [rightV_1]; simp_all)]; done)
    | (rw [if_pos (by rw [rightV_1]; simp_all)]; done)
    | (rw [if_neg (by rw [rightV_2]; simp_all)]; done)
    | (rw [if_pos (by rw [rightV_2]; simp_all)]; done)
    | (rw [if_neg (by rw [rightV_3]; simp_all)]; done)
    | (rw [if_pos (by rw [rightV_3]; simp_all)]; done)
    | (rw [if_neg (by rw [rightV_o _ _ _ (by assumption) (by assumption) (by assumption) (by assumption)]; simp)])
theorem ref12_Right (k n : Int) (s : Str) (hs : s.length ≤ 2 ^ 62) : CallF Tryz.prog n_ref12_Right [.agg [I k, I n, .str s]] (.bool (rightV ⟨k, n, s⟩)) := by
  refine CallF.of_nil (of_ref12_Right (by simp) ?_) rfl
  unfold b_ref12_Right WpR
  intro Q hQr hQn hQp
  repeat' first | refine go_ ?_ | refine cf_ (ref12_Plain _ hs) ?_ | refine br_ (fun hw => ?_) (fun hw => ?_) <;> try omega | fail
  all_goals refine leafE ?_ rfl
  all_goals (refine congrArg AV.bool ?_; try subst k)
  all_goals first
    | (rw [rightV_0]; rw [Bool.eq_iff_iff]; simp_all; done)
    | (rw [rightV_1]; rw [Bool.eq_iff_iff]; simp_all; done)
    | (rw [rightV_2]; rw [Bool.eq_iff_iff]; simp_all; done)
    | (rw [rightV_3]; rw [Bool.eq_iff_iff]; simp_all; done)
    | (rw [rightV_o _ _ _ (by assumption) (by assumption) (by assumption) (by assumption)])
structure Bin where
  op : Int
  sign : Str
  level : Int
deriving Inhabited, DecidableEq
def eBin (b : Bin) : AV := .agg [I b.op, .str b.sign, I b.level]
attribute [go_sem] eBin
def binL : List Bin := [⟨4, [43], 4⟩, ⟨5, [45], 4⟩, ⟨6, [42], 5⟩, ⟨7, [47], 5⟩, ⟨8, [61], 3⟩, ⟨9, [33, 61], 3⟩, ⟨10, [60], 3⟩, ⟨11, [60, 61], 3⟩, ⟨12, [62], 3⟩, ⟨13, [62, 61], 3⟩, ⟨14, [97, 110, 100], 2⟩, ⟨15, [111, 114], 1⟩]
def findB (op : Int) : Bin := (binL.find? fun b => b.op == op).getD ⟨0, [], 0⟩
def countS (op : Int) : Int := if op = 1 ∨ op = 2 then 0 else if op = 3 then 1 else if op = 16 then 3 else if 0 < (findB op).level then 2 else -1
def levelS (op : Int) : Int := if op = 16 then 0 else if op = 3 then 6 else if op = 1 ∨ op = 2 then 7 else (findB op).level
theorem findB_none (op : Int) (h : op < 4 ∨ 15 < op) : findB op = ⟨0, [], 0⟩ := by
  have : binL.find? (fun b => b.op == op) = none := by
    rw [List.find?_eq_none]
    intro b hb
    simp only [binL, List.mem_cons, List.not_mem_nil, or_false] at hb
    rcases hb with rfl | rfl | rfl | rfl | rfl | rfl | rfl | rfl | rfl | rfl | rfl | rfl <;> (simp only [beq_iff_eq]; omega)
  simp [findB, this]
theorem findB_some (op : Int) (h1 : 4 ≤ op) (h2 : op ≤ 15) : (findB op).sign ≠ [] ∧ 0 < (findB op).level := by
  have : op = 4 ∨ op = 5 ∨ op = 6 ∨ op = 7 ∨ op = 8 ∨ op = 9 ∨ op = 10 ∨ op = 11 ∨ op = 12 ∨ op = 13 ∨ op = 14 ∨ op = 15 := by omega
  rcases this with rfl | rfl | rfl | rfl | rfl | rfl | rfl | rfl | rfl | rfl | rfl | rfl <;> decide
theorem findB_sign (op : Int) : (findB op).sign = [] ↔ ¬ 0 < (findB op).level := by
  by_cases h : 4 ≤ op ∧ op ≤ 15
  · have := findB_some op h.1 h.2
    simp [this.1]; omega
  · rw [findB_none op (by omega)]; simp
theorem syntax_binaries : CallF Tryz.prog n_syntax_binaries [] (.lst false ⟨true, 3⟩ (binL.map eBin)) := by
  refine CallF.of_nil (of_syntax_binaries (by simp) ?_) rfl
  unfold b_syntax_binaries WpR
  intro Q hQr hQn hQp
  repeat' first | refine go_ ?_ | refine br_ (fun hw => ?_) (fun hw => ?_) <;> try omega | fail
  all_goals exact leaf1 (View.weak _ _ _ (by simp))
theorem syntax_find (op : Int) : CallF Tryz.prog n_syntax_find [I op] (eBin (findB op)) := by
  refine CallF.of_nil (of_syntax_find (by simp) ?_) rfl
  unfold b_syntax_find WpR
  intro Q hQr hQn hQp
  have hl : binL.length = 12 := rfl
  repeat' first | refine go_ ?_ | refine cf_ syntax_binaries ?_ | refine br_ (fun hw => ?_) (fun hw => ?_) <;> try omega | fail
  with_reducible refine loop_i [4, 7, 8, 9, 10, 11, 12, 13, 14, 15, 16] (fun p : Nat × List AObj => [(7, I p.1)]) (fun p => .cells [I 0, .str [], I 0] :: p.2) (fun p => p.1 ≤ 12 ∧ ∀ k, k < p.1 → ((binL.getD k default).op == op) = false) (fun p => 12 - p.1) (0, []) ?_ ?_ ?_ ?_
  · simp
  · rfl
  · exact at_
  rintro ⟨i, τ⟩ r ⟨h1, h2⟩
  dsimp only at h1 h2
  by_cases hi : i < 12
  · repeat' first | refine go_ ?_ | refine br_ (fun hw => ?_) (fun hw => ?_) <;> try omega | fail
    · refine leafE ?_ rfl
      have : findB op = binL.getD i default := by
        unfold findB; rw [find_at (p := fun b : Bin => b.op == op) hi h2 (by simpa using hw)]; rfl
      rw [this]; try rfl
    · refine ⟨(i + 1, τ ++ [.cells [I (binL.getD i default).op, .str (binL.getD i default).sign, I (binL.getD i default).level]]), ?_, ?_, by first | rfl | (simp [go_sem]; done), ou_, at_⟩ <;> (try dsimp only)
      · exact ⟨by omega, before_succ h2 (by simpa using hw)⟩
      · omega
  · repeat' first | refine go_ ?_ | refine br_ (fun hw => ?_) (fun hw => ?_) <;> try omega | fail
    refine leafE ?_ rfl
    have : findB op = ⟨0, [], 0⟩ := by
      unfold findB; rw [find_non (p := fun b : Bin => b.op == op) (fun k hk => h2 k (by omega))]; rfl
    rw [this]; try rfl
theorem ref14_sign (op : Int) : CallF Tryz.prog n_ref14_sign [I op] (.str (findB op).sign) := by
  refine CallF.of_nil (of_ref14_sign (by simp) ?_) rfl
  unfold b_ref14_sign WpR
  intro Q hQr hQn hQp
  repeat' first | refine go_ ?_ | refine br_ (fun hw => ?_) (fun hw => ?_) <;> try omega | fail
  all_goals refine leafE ?_ rfl
  all_goals (try subst op)
  all_goals first | rfl | (rw [findB_none op (by omega)])
theorem ref14_Level (op : Int) : CallF Tryz.prog n_ref14_Level [I op] (I (levelS op)) := by
  refine CallF.of_nil (of_ref14_Level (by simp) ?_) rfl
  unfold b_ref14_Level WpR
  intro Q hQr hQn hQp
  repeat' first | refine go_ ?_ | refine br_ (fun hw => ?_) (fun hw => ?_) <;> try omega | fail
  all_goals refine leafE ?_ rfl
  all_goals (try subst op)
  all_goals (refine congrArg I ?_)
  all_goals first | rfl | decide | skip
  by_cases h16 : op = 16
  · subst h16; rfl
  · unfold levelS; rw [if_neg h16, if_neg (by assumption), if_neg (by omega), findB_none op (by omega)]
theorem syntax_count (op : Int) : CallF Tryz.prog n_syntax_count [I op] (I (countS op)) := by
  refine CallF.of_nil (of_syntax_count (by simp) ?_) rfl
  unfold b_syntax_count WpR
  intro Q hQr hQn hQp
  repeat' first | refine go_ ?_ | refine cf_ (syntax_find _) ?_ | refine br_ (fun hw => ?_) (fun hw => ?_) <;> try omega | fail
  all_goals refine leafE ?_ rfl
  all_goals (refine congrArg I ?_; unfold countS)
  all_goals first | (simp_all; done)
theorem ref14_count (op : Int) : CallF Tryz.prog n_ref14_count [I op] (I (countS op)) := by
  refine CallF.of_nil (of_ref14_count (by simp) ?_) rfl
  unfold b_ref14_count WpR
  intro Q hQr hQn hQp
  repeat' first | refine go_ ?_ | refine cf_ (ref14_sign _) ?_ | refine br_ (fun hw => ?_) (fun hw => ?_) <;> try omega | fail
  all_goals refine leafE ?_ rfl
  all_goals (refine congrArg I ?_; unfold countS)
  all_goals (try rw [findB_sign] at hw)
  all_goals first | (simp_all; done) | (rw [if_neg (by omega), if_neg (by omega), if_neg (by omega), if_pos (by omega)]) | (rw [if_neg (by omega), if_neg (by omega), if_neg (by omega), if_neg (by omega)])
mutual
def deepS : Expr → Nat
  | .mk _ _ _ l => deepL l + 1
def deepL : List Expr → Nat
  | [] => 0
  | x :: r => Nat.max (deepS x) (deepL r)
end
mutual
def szS : Expr → Nat
  | .mk _ _ _ l => szL l + 1
def szL : List Expr → Nat
  | [] => 0
  | x :: r => szS x + szL r
end
theorem len_szL (l : List Expr) : l.length ≤ szL l := by
  induction l with
  | nil => simp [szL]
  | cons x r ih => cases x; simp only [szL, szS, List.length_cons]; omega
theorem mem_szL {l : List Expr} {x : Expr} (h : x ∈ l) : szS x ≤ szL l := by
  induction l with
  | nil => cases h
  | cons y r ih =>
    simp only [szL]
    rcases List.mem_cons.1 h with rfl | h
    · omega
    · have := ih h; omega
theorem deep_sz : ∀ x, deepS x ≤ szS x := by
  intro x
  induction x using Expr.ind with
  | h op v s l ih =>
    simp only [deepS, szS]
    have : deepL l ≤ szL l := by
      clear op v s
      induction l with
      | nil => simp [deepL]
      | cons y r ih2 =>
        simp only [deepL, szL]
        have h1 := ih y (by simp)
        have h2 := ih2 (fun z hz => ih z (List.mem_cons_of_mem _ hz))
        exact Nat.max_le.2 ⟨by omega, by omega⟩
    omega
theorem deepL_snoc (l : List Expr) (x : Expr) : deepL (l ++ [x]) = Nat.max (deepL l) (deepS x) := by
  induction l with
  | nil => simp only [List.nil_append, deepL]; exact Nat.max_comm _ _
  | cons y r ih => simp only [List.cons_append, deepL, ih]; exact (Nat.max_assoc _ _ _).symm
theorem take_succ {α : Type} [Inhabited α] {l : List α} {k : Nat} (h : k < l.length) : l.take (k + 1) = l.take k ++ [l.getD k default] := by
  rw [List.take_succ_eq_append_getElem h, List.getD_eq_getElem?_getD, List.getElem?_eq_getElem h]; rfl
theorem deepL_take {l : List Expr} {k : Nat} (h : k < l.length) : deepL (l.take (k + 1)) = Nat.max (deepL (l.take k)) (deepS (l.getD k default)) := by
  rw [take_succ h, deepL_snoc]
theorem deepL_le (l : List Expr) (k : Nat) : deepL (l.take k) ≤ szL l := by
  have : ∀ l : List Expr, deepL l ≤ szL l := fun l => by
    have := deep_sz (.mk 0 default [] l)
    simp only [deepS, szS] at this; omega
  refine Nat.le_trans (this _) ?_
  induction l generalizing k with
  | nil => simp [szL]
  | cons x r ih => cases k with
    | zero => simp [szL]
    | succ k => simp only [List.take_succ_cons, szL]; have := ih k; omega
theorem syntax_Deep (x : Expr) (hx : szS x ≤ 2 ^ 60) : CallF Tryz.prog n_syntax_Deep [eExpr x] (I (deepS x)) := by
  induction x using Expr.ind with
  | h op v s l ih =>
    simp only [szS] at hx
    have hlen := len_szL l
    have hih : ∀ k, k < l.length → CallF Tryz.prog n_syntax_Deep [eExpr (l.getD k default)] (I (deepS (l.getD k default))) := fun k hk =>
      ih _ (getD_mem hk) (by have := mem_szL (getD_mem hk); omega)
    refine CallF.of_nil (of_syntax_Deep (by simp) ?_) (by simp)
    unfold b_syntax_Deep WpR
    intro Q hQr hQn hQp
    repeat' first | refine go_ ?_ | refine br_ (fun hw => ?_) (fun hw => ?_) <;> try omega | fail
    with_reducible refine loop_i [3, 5, 9, 10, 11, 12, 13, 14, 15, 16, 17] (fun p : Nat × List AObj => [(9, I p.1), (3, I (deepL (l.take p.1)))]) (fun p => .cells [I op, I v.kind, I v.n, .str v.s, .str s, .lst false EX (l.map eExpr)] :: p.2) (fun p => p.1 ≤ l.length) (fun p => l.length - p.1) (0, []) ?_ ?_ ?_ ?_
    · simp
    · rfl
    · exact at_
    rintro ⟨i, τ⟩ r h1
    dsimp only at h1
    by_cases hi : i < l.length
    · have hy := hih i hi
      have hmax : (if ((deepL (l.take i) : Nat) : Int) < ((deepS (l.getD i default) : Nat) : Int) then ((deepS (l.getD i default) : Nat) : Int) else ((deepL (l.take i) : Nat) : Int)) = ((deepL (l.take (i + 1)) : Nat) : Int) := by
        rw [deepL_take hi]
        show _ = ((max (deepL (l.take i)) (deepS (l.getD i default)) : Nat) : Int)
        by_cases hm : deepL (l.take i) ≤ deepS (l.getD i default)
        · rw [Nat.max_eq_right hm]; split <;> omega
        · rw [Nat.max_eq_left (by omega)]; split <;> omega
      rw [eExpr_eq] at hy
      repeat' first | simp (disch := omega) only [go_sem, hQr, hQn, hQp, wrapK_i64, wrapK_u8, wrapK_u64, Nat.reduceAdd, Nat.reduceBEq, ↓reduceIte, hmax] | refine go_ ?_ | refine cf_ hy ?_ | refine br_ (fun hw => ?_) (fun hw => ?_) <;> try omega | fail
      refine ⟨(i + 1, τ ++ [.cells [I (l.getD i default).op, I (l.getD i default).v.kind, I (l.getD i default).v.n, .str (l.getD i default).v.s, .str (l.getD i default).s, .lst false EX ((l.getD i default).l.map eExpr)]]), ?_, ?_, by first | rfl | (simp [go_sem]; done), ou_, at_⟩ <;> (try dsimp only)
      · omega
      · omega
    · have h3 := deepL_le l l.length
      rw [List.take_length] at h3
      have h2 : l.take i = l := List.take_of_length_le (by omega)
      have h4 := deepL_le l i
      rw [h2] at h4
      repeat' first | simp (disch := omega) only [go_sem, hQr, hQn, hQp, wrapK_i64, wrapK_u8, wrapK_u64, Nat.reduceAdd, Nat.reduceBEq, ↓reduceIte, h2] | refine go_ ?_ | refine br_ (fun hw => ?_) (fun hw => ?_) <;> try omega | fail
      refine leafE ?_ rfl
      refine congrArg I ?_
      simp only [deepS]; omega
theorem ref14_Deep (x : Expr) (hx : szS x ≤ 2 ^ 60) : CallF Tryz.prog n_ref14_Deep [eExpr x] (I (deepS x)) := by
  induction x using Expr.ind with
  | h op v s l ih =>
    simp only [szS] at hx
    have hlen := len_szL l
    have hih : ∀ k, k < l.length → CallF Tryz.prog n_ref14_Deep [eExpr (l.getD k default)] (I (deepS (l.getD k default))) := fun k hk =>
      ih _ (getD_mem hk) (by have := mem_szL (getD_mem hk); omega)
    refine CallF.of_nil (of_ref14_Deep (by simp) ?_) (by simp)
    unfold b_ref14_Deep WpR
    intro Q hQr hQn hQp
    repeat' first | refine go_ ?_ | refine br_ (fun hw => ?_) (fun hw => ?_) <;> try omega | fail
    with_reducible refine loop_i [3, 4, 5, 6, 7, 8, 9, 10, 11, 12, 13, 14, 15, 16, 17, 18, 19, 20, 21, 22] (fun p : Nat × List AObj => [(4, I p.1), (3, I (deepL (l.take p.1)))]) (fun p => .cells [I op, I v.kind, I v.n, .str v.s, .str s, .lst false EX (l.map eExpr)] :: p.2) (fun p => p.1 ≤ l.length) (fun p => l.length - p.1) (0, []) ?_ ?_ ?_ ?_
    · simp
    · rfl
    · exact at_
    rintro ⟨i, τ⟩ r h1
    dsimp only at h1
    have h4 := deepL_le l i
    by_cases hi : i < l.length
    · have hy := hih i hi
      rw [eExpr_eq] at hy
      repeat' first | refine go_ ?_ | refine cf_ hy ?_ | refine br_ (fun hw => ?_) (fun hw => ?_) <;> try omega | fail
      · have e : deepL (l.take (i + 1)) = deepS (l.getD i default) := by rw [deepL_take hi]; exact Nat.max_eq_right (by omega)
        refine ⟨(i + 1, τ), ?_, ?_, by first | rfl | (simp [go_sem]; done), ou_, at_⟩ <;> (try dsimp only)
        · omega
        · omega
      · have e : deepL (l.take (i + 1)) = deepL (l.take i) := by rw [deepL_take hi]; exact Nat.max_eq_left (by omega)
        refine ⟨(i + 1, τ), ?_, ?_, by first | rfl | (simp [go_sem]; done), ou_, at_⟩ <;> (try dsimp only)
        · omega
        · omega
    · have h3 := deepL_le l l.length
      rw [List.take_length] at h3
      have h2 : l.take i = l := List.take_of_length_le (by omega)
      rw [h2] at h4
      repeat' first | simp (disch := omega) only [go_sem, hQr, hQn, hQp, wrapK_i64, wrapK_u8, wrapK_u64, Nat.reduceAdd, Nat.reduceBEq, ↓reduceIte, h2] | refine go_ ?_ | refine br_ (fun hw => ?_) (fun hw => ?_) <;> try omega | fail
      refine leafE ?_ rfl
      refine congrArg I ?_
      simp only [deepS]; omega
end Go.Proofs.YthkhdedadacakaaGreatDoor
