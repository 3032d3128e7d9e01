/- Part of a proof: see Root. -/
import Derived.Test.YthkhdedadacakaaGreatDoorY15
set_option linter.unnecessarySimpa false
set_option linter.unusedSimpArgs false
set_option linter.unusedVariables false
namespace Go.Proofs.YthkhdedadacakaaGreatDoor
open Go.AM
set_option maxRecDepth 4000
theorem or32 (c : UInt8) : bitsO .or .u8 (c.toNat : Int) 32 = ((c.toNat ||| 32 : Nat) : Int) := by
  rw [bitsO_eq]
  have h : ∀ n : Fin 256, bitsK .or .u8 (n.val : Int) 32 = ((n.val ||| 32 : Nat) : Int) := by decide +kernel
  exact h ⟨c.toNat, c.toNat_lt⟩
theorem or32_letter (c : UInt8) : (decide (97 ≤ c.toNat ||| 32) && decide (c.toNat ||| 32 ≤ 122) || decide (c.toNat = 95)) = letterB c := by
  have h : ∀ n : Fin 256, (decide (97 ≤ n.val ||| 32) && decide (n.val ||| 32 ≤ 122) || decide (n.val = 95)) = ((decide (97 ≤ n.val) && decide (n.val ≤ 122)) || (decide (65 ≤ n.val) && decide (n.val ≤ 90)) || decide (n.val = 95)) := by decide +kernel
  exact h ⟨c.toNat, c.toNat_lt⟩
theorem lex_letter (c : UInt8) : CallF Tryz.prog n_lex_letter [.int .u8 c.toNat] (.bool (letterB c)) := by
  rw [← or32_letter]
  refine CallF.of_nil (of_lex_letter (by simp) ?_) rfl
  unfold b_lex_letter WpR
  intro Q hQr hQn hQp
  repeat' first | refine go_ ?_ | refine br_ (fun hw => ?_) (fun hw => ?_) <;> try omega | fail
  all_goals refine leafE ?_ rfl
  all_goals (rw [or32] at *; (refine congrArg AV.bool ?_; rw [Bool.eq_iff_iff]; simp only [or32, Bool.and_eq_true, Bool.or_eq_true, decide_eq_true_eq, beq_iff_eq, Bool.not_eq_true', decide_eq_false_iff_not, beq_eq_false_iff_ne, ne_eq, true_iff, false_iff, iff_true, iff_false, Bool.false_eq_true, Bool.true_eq_false, not_and, not_or] at *; omega))
theorem lex_digit (c : UInt8) : CallF Tryz.prog n_lex_digit [.int .u8 c.toNat] (.bool (digitB c)) := by
  refine CallF.of_nil (of_lex_digit (by simp) ?_) rfl
  unfold b_lex_digit WpR
  intro Q hQr hQn hQp
  repeat' first | refine go_ ?_ | refine br_ (fun hw => ?_) (fun hw => ?_) <;> try omega | fail
  all_goals refine leafE ?_ rfl
  all_goals (refine congrArg AV.bool ?_; rw [Bool.eq_iff_iff]; simp only [digitB, Bool.and_eq_true, Bool.or_eq_true, decide_eq_true_eq, beq_iff_eq, Bool.not_eq_true', decide_eq_false_iff_not, beq_eq_false_iff_ne, ne_eq, true_iff, false_iff, iff_true, iff_false, Bool.false_eq_true, Bool.true_eq_false, not_and, not_or] at *; omega)
theorem takeWhile_at {p : UInt8 → Bool} {s : Str} {i : Nat} (hi : i < s.length) : ((s.drop i).takeWhile p).length = if p (s.getD i 0) then 1 + ((s.drop (i + 1)).takeWhile p).length else 0 := by
  rw [List.drop_eq_getElem_cons hi, List.takeWhile_cons, List.getD_eq_getElem?_getD, List.getElem?_eq_getElem hi]
  simp only [Option.getD_some]
  split <;> simp; omega
theorem lex_run (fn : FuncId) (cap : List AV) (hcap : AV.purL cap = true) (p : UInt8 → Bool) (h : ∀ c : UInt8, CallF Tryz.prog fn (.int .u8 c.toNat :: cap) (.bool (p c))) (s : Str) (hs : s.length ≤ 2 ^ 62) :
    CallF Tryz.prog n_lex_run [.str s, .fn (.func fn) [] cap] (I (s.takeWhile p).length) := by
  refine CallF.of_nil (of_lex_run (by simp) ?_) (by simp [AV.pur, AV.purL, hcap])
  unfold b_lex_run WpR
  intro Q hQr hQn hQp
  repeat' first | refine go_ ?_ | refine br_ (fun hw => ?_) (fun hw => ?_) <;> try omega | fail
  with_reducible refine loop_i [4, 5, 8, 9, 10, 11, 12, 13, 14, 15, 16, 17, 18] (fun i : Nat => [(8, I i)]) (fun _ => []) (fun i => i ≤ s.length ∧ (s.takeWhile p).length = i + ((s.drop i).takeWhile p).length) (fun i => s.length - i) (0) ?_ ?_ ?_ ?_
  · simp
  · rfl
  · exact at_
  · rintro i r ⟨hi, hp⟩
    repeat' first | refine go_ ?_ | refine cf_ (h _) ?_ | refine br_ (fun hw => ?_) (fun hw => ?_) <;> try omega | fail
    · rw [takeWhile_at (by omega)] at hp
      rw [hw] at hp
      exact leafE (by simp at hp; simp [hp]) rfl
    · rw [takeWhile_at (by omega)] at hp
      rw [hw] at hp
      refine ⟨i + 1, ?_, ?_, by first | rfl | (simp [go_sem]; done), ou_, at_⟩ <;> (try dsimp only)
      · simp at hp; exact ⟨by omega, by omega⟩
      · omega
    · have : i = s.length := by omega
      subst this
      exact leafE (by simp at hp; simp [hp]) rfl
theorem lex_word_1 (c : UInt8) : CallF Tryz.prog n_lex_word_1 [.int .u8 c.toNat] (.bool (wordB c)) := by
  refine CallF.of_nil (of_lex_word_1 (by simp) ?_) rfl
  unfold b_lex_word_1 WpR
  intro Q hQr hQn hQp
  repeat' first | refine go_ ?_ | refine cf_ (lex_letter _) ?_ | refine cf_ (lex_digit _) ?_ | refine br_ (fun hw => ?_) (fun hw => ?_) <;> try omega | fail
  all_goals refine leafE ?_ rfl
  all_goals simp_all [wordB]
theorem lex_word (s : Str) (hs : s.length ≤ 2 ^ 62) : CallF Tryz.prog n_lex_word [.str s] (I (wordN s)) := by
  refine CallF.of_nil (of_lex_word (by simp) ?_) rfl
  unfold b_lex_word WpR
  intro Q hQr hQn hQp
  cases s with
  | nil =>
    repeat' first | refine go_ ?_ | refine br_ (fun hw => ?_) (fun hw => ?_) <;> try omega | fail
    all_goals (refine leafE ?_ ?_ <;> rfl)
  | cons c r =>
    repeat' first | refine go_ ?_ | refine cf_ (lex_letter _) ?_ | refine cf_ (lex_run _ _ rfl wordB lex_word_1 _ hs) ?_ | refine br_ (fun hw => ?_) (fun hw => ?_) <;> try omega | fail
    all_goals refine leafE ?_ rfl
    all_goals simp_all [wordN]
theorem lex_name (s : Str) (hs : s.length ≤ 2 ^ 62) : CallF Tryz.prog n_lex_name [.str s] (ePR (nameP s)) := by
  refine CallF.of_nil (of_lex_name (by simp) ?_) rfl
  unfold b_lex_name WpR
  intro Q hQr hQn hQp
  have := wordN_le s
  repeat' first | refine go_ ?_ | refine cf_ (lex_word _ hs) ?_ | refine br_ (fun hw => ?_) (fun hw => ?_) <;> try omega | fail
  all_goals refine leafNE ?_ rfl
  all_goals (unfold nameP; split <;> first | omega | rfl)
theorem takeWhile_getD {p : UInt8 → Bool} {s : Str} {i : Nat} (hi : i < (s.takeWhile p).length) : s.getD i 0 = (s.takeWhile p).getD i 0 ∧ p (s.getD i 0) = true := by
  induction s generalizing i with
  | nil => simp at hi
  | cons c r ih =>
    simp only [List.takeWhile_cons] at hi ⊢
    split at hi
    · rename_i hc
      simp only [hc, if_true]
      cases i with
      | zero => simp [hc]
      | succ i => simpa using ih (by simpa using hi)
    · simp at hi
theorem lex_number (s : Str) (hs : s.length ≤ 2 ^ 62) : CallF Tryz.prog n_lex_number [.str s] (ePR (numberP s)) := by
  refine CallF.of_nil (of_lex_number (by simp) ?_) rfl
  unfold b_lex_number WpR
  intro Q hQr hQn hQp
  have hle := takeWhile_le (p := digitB) s
  obtain ⟨n, hn⟩ : ∃ n, (s.takeWhile digitB).length = n := ⟨_, rfl⟩
  have hrun : CallF Tryz.prog n_lex_run [.str s, .fn (.func n_lex_digit) [] []] (I n) := hn ▸ lex_run _ [] rfl digitB lex_digit _ hs
  have hd : ∀ i, i < n → 48 ≤ (s.getD i 0).toNat ∧ (s.getD i 0).toNat ≤ 57 ∧ (s.takeWhile digitB).drop i = s.getD i 0 :: (s.takeWhile digitB).drop (i + 1) := fun i hi => by
    obtain ⟨h1, h2⟩ := takeWhile_getD (s := s) (p := digitB) (i := i) (by omega)
    simp only [digitB, Bool.and_eq_true, decide_eq_true_eq] at h2
    refine ⟨h2.1, h2.2, ?_⟩
    rw [List.drop_eq_getElem_cons (by omega : i < (s.takeWhile digitB).length), h1, List.getD_eq_getElem?_getD, List.getElem?_eq_getElem (by omega : i < (s.takeWhile digitB).length)]
    rfl
  repeat' first | refine go_ ?_ | refine cf_ hrun ?_ | refine br_ (fun hw => ?_) (fun hw => ?_) <;> try omega | fail
  · refine leafNE ?_ rfl
    unfold numberP; rw [hn]; simp only
    rw [if_pos (by constructor <;> omega)]; rfl
  all_goals (
    have hno : ¬ (1 < n ∧ (s.getD 0 0).toNat = 48) := by omega
    with_reducible refine loop_i [3, 5, 6, 7, 19, 20, 21, 22, 23, 24, 25, 26, 27, 28, 29, 30, 31, 32, 33, 34, 35, 36, 37] (fun p : Nat × Int => [(19, I p.1), (5, I p.2)]) (fun _ => [.cells [I 0, .str [], I 0, I 0, I 0]]) (fun p => p.1 ≤ n ∧ 0 ≤ p.2 ∧ p.2 ≤ 9223372036854775807 ∧ numF (s.takeWhile digitB) 0 = numF ((s.takeWhile digitB).drop p.1) p.2) (fun p => n - p.1) (0, 0) ?_ ?_ ?_ ?_
    · simp
    · rfl
    · exact at_
    · rintro ⟨i, v⟩ r ⟨hi, hv, hv2, hf⟩
      simp only at hi hv hv2 hf
      by_cases hin : i < n
      · obtain ⟨d1, d2, d3⟩ := hd i hin
        rw [d3] at hf
        simp only [numF] at hf
        repeat' first | refine go_ ?_ | refine br_ (fun hw => ?_) (fun hw => ?_) <;> try omega | fail
        · rw [if_pos hw] at hf
          refine leafNE ?_ rfl
          unfold numberP; rw [hn]; simp only
          rw [if_neg hno, hf]; rfl
        · rw [if_neg (by omega)] at hf
          refine ⟨(i + 1, v * 10 + (((s.getD i 0).toNat : Int) - 48)), ?_, ?_, by first | rfl | (simp [go_sem]; done), ou_, at_⟩ <;> (try dsimp only)
          · exact ⟨by omega, by omega, by omega, hf⟩
          · omega
      · have : i = n := by omega
        subst this
        rw [List.drop_of_length_le (by omega)] at hf
        repeat' first | refine go_ ?_ | refine br_ (fun hw => ?_) (fun hw => ?_) <;> try omega | fail
        · refine leafNE ?_ rfl
          unfold numberP; rw [hn]; simp only
          rw [if_neg hno, hf]; rfl)
theorem drop_at0 {l : Str} {i : Nat} (h : i < l.length) : l.drop i = l.getD i 0 :: l.drop (i + 1) := by
  rw [List.drop_eq_getElem_cons h, List.getD_eq_getElem?_getD, List.getElem?_eq_getElem h]; rfl
abbrev eBytes (s : Str) : List AV := s.map fun b => AV.int .u8 b.toNat
theorem lex_text (s : Str) (h0 : s ≠ []) (hs : s.length ≤ 2 ^ 30) : CallF Tryz.prog n_lex_text [.str s] (ePR (textF (s.drop 1) [] 1)) := by
  refine CallF.of_nil (of_lex_text (by simp) ?_) rfl
  unfold b_lex_text WpR
  intro Q hQr hQn hQp
  have hl : 1 ≤ s.length := by cases s with | nil => exact absurd rfl h0 | cons => simp
  generalize hT : textF (s.drop 1) [] 1 = T at *
  repeat' first | refine go_ ?_ | refine br_ (fun hw => ?_) (fun hw => ?_) <;> try omega | fail
  with_reducible refine loop_i [3, 4, 5, 6, 7, 8, 9, 10, 11, 12, 13, 14, 15, 16, 17, 18, 19, 20, 21, 22, 23, 24, 25, 26, 27, 28, 29, 30, 31, 32, 33, 34, 35, 36, 37, 38, 39, 40, 41, 42, 43, 44, 45, 46, 47, 48, 49, 50, 51, 52, 53, 54, 55, 56, 57, 58, 59, 60, 61, 62, 63, 64, 65, 66, 67, 68, 69] (fun p : Nat × Str => [(5, I p.1), (4, .own E1 1 p.2.length 0 p.2.length)]) (fun p => [.cells [I 0, .str [], I 0, I 0, I 0], .vec E1 (eBytes p.2)]) (fun p => 1 ≤ p.1 ∧ p.1 ≤ s.length ∧ p.2.length ≤ p.1 ∧ T = textF (s.drop p.1) p.2 p.1) (fun p => s.length - p.1) ((1, [])) ?_ ?_ ?_ ?_
  · exact ⟨Nat.le_refl _, hl, by simp, hT.symm⟩
  · rfl
  · exact at_
  · rintro ⟨i, b⟩ r ⟨hi1, hi, hb, hf⟩
    simp only at hi1 hi hb hf
    by_cases hin : i < s.length
    · rw [drop_at0 hin] at hf
      repeat' first | refine go_ ?_ | refine br_ (fun hw => ?_) (fun hw => ?_) <;> try omega | fail
      · refine leafNE ?_ rfl; rw [hf, textF_cons, if_pos (by omega), if_pos (by omega)]; rfl
      · refine leafNE ?_ rfl; rw [hf, textF_cons, if_pos (by omega), if_neg (by omega)]; simp
      · refine leafNE ?_ rfl; rw [hf, textF_cons, if_neg (by omega), if_pos (by omega), drop_at0 (by omega)]
        simp only
        rw [if_neg (by omega)]; rfl
      · rw [textF_cons, if_neg (by omega), if_pos (by omega), drop_at0 (by omega)] at hf
        try dsimp only at hf
        rw [if_pos (by omega)] at hf
        refine ⟨(i + 2, b ++ [s.getD (i + 1) 0]), ?_, ?_, by first | rfl | (simp [go_sem]; done), ou_, at_⟩ <;> (try dsimp only)
        · simp only [List.length_append, List.length_cons, List.length_nil]; exact ⟨by omega, by omega, by omega, hf⟩
        · omega
      · rw [textF_cons, if_neg (by omega), if_pos (by omega), drop_at0 (by omega)] at hf
        try dsimp only at hf
        rw [if_pos (by omega)] at hf
        refine ⟨(i + 2, b ++ [s.getD (i + 1) 0]), ?_, ?_, by first | rfl | (simp [go_sem]; done), ou_, at_⟩ <;> (try dsimp only)
        · simp only [List.length_append, List.length_cons, List.length_nil]; exact ⟨by omega, by omega, by omega, hf⟩
        · omega
      · refine leafNE ?_ rfl; rw [hf, textF_cons, if_neg (by omega), if_pos (by omega), List.drop_of_length_le (by omega)]
        rfl
      · refine leafNE ?_ rfl; rw [hf, textF_cons, if_neg (by omega), if_neg (by omega), if_neg (by simp only [printB, Bool.and_eq_true, decide_eq_true_eq]; omega)]; rfl
      · rw [textF_cons, if_neg (by omega), if_neg (by omega), if_pos (by simp only [printB, Bool.and_eq_true, decide_eq_true_eq]; omega)] at hf
        refine ⟨(i + 1, b ++ [s.getD i 0]), ?_, ?_, by first | rfl | (simp [go_sem]; done), ou_, at_⟩ <;> (try dsimp only)
        · simp only [List.length_append, List.length_cons, List.length_nil]; exact ⟨by omega, by omega, by omega, hf⟩
        · omega
      · refine leafNE ?_ rfl; rw [hf, textF_cons, if_neg (by omega), if_neg (by omega), if_neg (by simp only [printB, Bool.and_eq_true, decide_eq_true_eq]; omega)]; rfl
    · rw [List.drop_of_length_le (by omega)] at hf
      repeat' first | refine go_ ?_ | refine br_ (fun hw => ?_) (fun hw => ?_) <;> try omega | fail
      all_goals (refine leafNE ?_ rfl; rw [hf]; simp [textF, PR.err])
theorem internal_HasPrefix (s p : Str) : CallF Tryz.prog n_internal_stringslite_HasPrefix [.str s, .str p] (.bool (p.isPrefixOf s)) := by
  refine CallF.of_nil (of_internal_stringslite_HasPrefix (by simp) ?_) rfl
  unfold b_internal_stringslite_HasPrefix WpR
  intro Q hQr hQn hQp
  repeat' first | refine go_ ?_ | refine br_ (fun hw => ?_) (fun hw => ?_) <;> try omega | fail
  all_goals refine leafE ?_ rfl
  all_goals refine congrArg AV.bool ?_
  · rw [Bool.eq_iff_iff, beq_iff_eq, List.isPrefixOf_iff_prefix, List.prefix_iff_eq_take]; exact eq_comm
  · symm; rw [Bool.eq_false_iff]; intro h
    have := (List.isPrefixOf_iff_prefix.1 h).length_le
    omega
theorem strings_HasPrefix (s p : Str) : CallF Tryz.prog n_strings_HasPrefix [.str s, .str p] (.bool (p.isPrefixOf s)) := by
  refine CallF.of_nil (of_strings_HasPrefix (by simp) ?_) rfl
  unfold b_strings_HasPrefix WpR
  intro Q hQr hQn hQp
  repeat' first | refine go_ ?_ | refine cf_ (internal_HasPrefix _ _) ?_ | refine br_ (fun hw => ?_) (fun hw => ?_) <;> try omega | fail
  all_goals exact leafE rfl rfl
theorem lex_marks : CallF Tryz.prog n_lex_marks [] (eStrs marksL) := by
  refine CallF.of_nil (of_lex_marks (by simp) ?_) rfl
  unfold b_lex_marks WpR
  intro Q hQr hQn hQp
  repeat' first | refine go_ ?_ | refine br_ (fun hw => ?_) (fun hw => ?_) <;> try omega | fail
  all_goals exact leaf1 (View.weak _ _ _ (by simp [AV.pur, AV.purL]))
def idxF {α : Type} (p : α → Bool) (l : List α) : Int := match l.findIdx? p with
  | some i => i
  | none => -1
theorem idxF_none {α : Type} [Inhabited α] {p : α → Bool} {l : List α} (h : ∀ k, k < l.length → p (l.getD k default) = false) : idxF p l = -1 := by
  have : l.findIdx? p = none := by
    rw [List.findIdx?_eq_none_iff]
    intro x hx
    obtain ⟨k, hk, rfl⟩ := List.getElem_of_mem hx
    have := h k hk
    rwa [List.getD_eq_getElem?_getD, List.getElem?_eq_getElem hk] at this
  simp [idxF, this]
theorem idxF_at {α : Type} [Inhabited α] {p : α → Bool} {l : List α} {i : Nat} (hi : i < l.length) (h : ∀ k, k < i → p (l.getD k default) = false) (hp : p (l.getD i default) = true) : idxF p l = i := by
  have : l.findIdx? p = some i := by
    rw [List.findIdx?_eq_some_iff_getElem]
    refine ⟨hi, ?_, fun j hj => ?_⟩
    · rwa [List.getD_eq_getElem?_getD, List.getElem?_eq_getElem hi] at hp
    · have := h j hj
      rw [List.getD_eq_getElem?_getD, List.getElem?_eq_getElem (by omega)] at this
      simpa using this
  simp [idxF, this]
theorem slices_IndexFunc_string (fn : FuncId) (cap : List AV) (hcap : AV.purL cap = true) (p : Str → Bool) (l : List Str) (h : ∀ x ∈ l, CallF Tryz.prog fn (.str x :: cap) (.bool (p x))) (hl : l.length ≤ 2 ^ 62) :
    CallF Tryz.prog n_slices_IndexFunc_string [eStrs l, .fn (.func fn) [] cap] (I (idxF p l)) := by
  refine CallF.of_nil (of_slices_IndexFunc_string (by simp) ?_) (by simp [AV.pur, AV.purL, hcap, pur_eStrs])
  unfold b_slices_IndexFunc_string WpR
  intro Q hQr hQn hQp
  repeat' first | refine go_ ?_ | refine br_ (fun hw => ?_) (fun hw => ?_) <;> try omega | fail
  with_reducible refine loop_i [4, 5, 8, 9, 10, 11, 12, 13, 14, 15, 16, 17, 18] (fun i : Nat => [(8, I i)]) (fun _ => []) (fun i => i ≤ l.length ∧ ∀ k, k < i → p (l.getD k default) = false) (fun i => l.length - i) (0) ?_ ?_ ?_ ?_
  · simp
  · rfl
  · exact at_
  · rintro i r ⟨hi, hp⟩
    by_cases hin : i < l.length
    · have hx := h _ (getD_mem hin)
      repeat' first | refine go_ ?_ | refine cf_ hx ?_ | refine br_ (fun hw => ?_) (fun hw => ?_) <;> try omega | fail
      · refine leafE ?_ rfl
        refine congrArg I ?_
        exact (idxF_at hin hp hw).symm
      · refine ⟨i + 1, ?_, ?_, by first | rfl | (simp [go_sem]; done), ou_, at_⟩ <;> (try dsimp only)
        · refine ⟨by omega, fun k hk => ?_⟩
          by_cases hk2 : k < i
          · exact hp k hk2
          · have : k = i := by omega
            subst this; exact hw
        · omega
    · repeat' first | refine go_ ?_ | refine br_ (fun hw => ?_) (fun hw => ?_) <;> try omega | fail
      refine leafE ?_ rfl
      refine congrArg I ?_
      exact (idxF_none fun k hk => hp k (by omega)).symm
theorem find_idx {α : Type} [Inhabited α] (p : α → Bool) : ∀ l : List α, (idxF p l = -1 ∧ l.find? p = none) ∨ ∃ i : Nat, i < l.length ∧ idxF p l = i ∧ l.find? p = some (l.getD i default)
  | [] => .inl ⟨rfl, rfl⟩
  | x :: l => by
    by_cases hp : p x = true
    · exact .inr ⟨0, by simp, by simp [idxF, List.findIdx?_cons, hp], by simp [hp]⟩
    · rcases find_idx p l with ⟨h1, h2⟩ | ⟨i, h1, h2, h3⟩
      · left
        simp only [idxF] at h1
        refine ⟨?_, by simp [hp, h2]⟩
        cases h : l.findIdx? p with
        | none => simp [idxF, List.findIdx?_cons, hp, h]
        | some k => rw [h] at h1; simp at h1
      · right
        refine ⟨i + 1, by simp; omega, ?_, by simp [hp, h3]⟩
        simp only [idxF] at h2
        cases h : l.findIdx? p with
        | none => rw [h] at h2; simp at h2
        | some k => rw [h] at h2; simp at h2; simp [idxF, List.findIdx?_cons, hp, h]; omega
theorem lex_mark_1 (m s : Str) : CallF Tryz.prog n_lex_mark_1 [.str m, .eref E1 (.str s) 0] (.bool (m.isPrefixOf s)) := by
  refine CallF.of_nil (of_lex_mark_1 (by simp) ?_) rfl
  unfold b_lex_mark_1 WpR
  intro Q hQr hQn hQp
  repeat' first | refine go_ ?_ | refine cf_ (strings_HasPrefix _ _) ?_ | refine br_ (fun hw => ?_) (fun hw => ?_) <;> try omega | fail
  all_goals exact leafE rfl rfl
theorem lex_mark (s : Str) : CallF Tryz.prog n_lex_mark [.str s] (ePR (markP s)) := by
  have hc := slices_IndexFunc_string n_lex_mark_1 [.eref E1 (.str s) 0] rfl (fun m => m.isPrefixOf s) marksL (fun m _ => lex_mark_1 m s) (by decide)
  unfold markP
  rcases find_idx (fun m : Str => m.isPrefixOf s) marksL with ⟨h1, h2⟩ | ⟨i, hi, h1, h2⟩
  · rw [h1] at hc
    rw [h2]
    refine CallF.of_nil (of_lex_mark (by simp) ?_) rfl
    unfold b_lex_mark WpR
    intro Q hQr hQn hQp
    repeat' first | refine go_ ?_ | refine cf_ lex_marks ?_ | refine cv_ hc ?_ | refine br_ (fun hw => ?_) (fun hw => ?_) <;> try omega | fail
    all_goals (refine leafNE ?_ rfl; rfl)
  · rw [h1] at hc
    rw [h2]
    have hi2 : i < 16 := hi
    have hl : (marksL.map eStr).length = 16 := rfl
    refine CallF.of_nil (of_lex_mark (by simp) ?_) rfl
    unfold b_lex_mark WpR
    intro Q hQr hQn hQp
    repeat' first | refine go_ ?_ | refine cf_ lex_marks ?_ | refine cv_ hc ?_ | refine br_ (fun hw => ?_) (fun hw => ?_) <;> try omega | fail
    all_goals (refine leafNE ?_ rfl; rfl)
theorem lex_next (s : Str) (h0 : s ≠ []) (hs : s.length ≤ 2 ^ 30) : CallF Tryz.prog n_lex_next [.str s] (ePR (oneP s)) := by
  refine CallF.of_nil (of_lex_next (by simp) ?_) rfl
  unfold b_lex_next WpR
  intro Q hQr hQn hQp
  have hl : 1 ≤ s.length := by cases s with | nil => exact absurd rfl h0 | cons => simp
  repeat' first | refine go_ ?_ | refine cf_ (lex_letter _) ?_ | refine cf_ (lex_digit _) ?_ | with_reducible refine callL_f (lex_name _ (by omega)) ?_ | with_reducible refine callD_f (lex_name _ (by omega)) ?_ | with_reducible refine callL_f (lex_number _ (by omega)) ?_ | with_reducible refine callD_f (lex_number _ (by omega)) ?_ | refine cf_ (lex_text _ h0 hs) ?_ | refine cf_ (lex_mark _) ?_ | refine br_ (fun hw => ?_) (fun hw => ?_) <;> try omega | fail
  all_goals refine leafNE ?_ rfl
  all_goals (unfold oneP; dsimp only; first
    | (rw [if_pos (by assumption)] <;> rfl)
    | (rw [if_neg (ne_true_of_eq_false (by assumption)), if_pos (by assumption)] <;> rfl)
    | (rw [if_neg (ne_true_of_eq_false (by assumption)), if_neg (ne_true_of_eq_false (by assumption)), if_pos (by omega)] <;> rfl)
    | (rw [if_neg (ne_true_of_eq_false (by assumption)), if_neg (ne_true_of_eq_false (by assumption)), if_neg (by omega)] <;> rfl))
theorem lex_reserved (s : Str) : CallF Tryz.prog n_lex_reserved [.str s] (.bool (reservedS s)) := by
  refine CallF.of_nil (of_lex_reserved (by simp) ?_) rfl
  unfold b_lex_reserved WpR
  intro Q hQr hQn hQp
  repeat' first | refine go_ ?_ | refine br_ (fun hw => ?_) (fun hw => ?_) <;> try omega | fail
  all_goals refine leafE ?_ rfl
  all_goals (refine congrArg AV.bool ?_; simp_all [reservedS, reservedL])
theorem lex_Name (s : Str) (hs : s.length ≤ 2 ^ 62) : CallF Tryz.prog n_lex_Name [.str s] (.bool (nameS s)) := by
  refine CallF.of_nil (of_lex_Name (by simp) ?_) rfl
  unfold b_lex_Name WpR
  intro Q hQr hQn hQp
  repeat' first | refine go_ ?_ | refine cf_ (lex_word _ hs) ?_ | refine cf_ (lex_reserved _) ?_ | refine br_ (fun hw => ?_) (fun hw => ?_) <;> try omega | fail
  all_goals refine leafE ?_ rfl
  all_goals (refine congrArg AV.bool ?_; simp [nameS]; try simp_all; try omega)
def eLex (p : List Tok × Int × Int) : AV := .tup [eToks p.1, I p.2.1, I p.2.2]
attribute [go_sem] eLex
theorem lexF_nil (f pos : Nat) (acc : List Tok) : lexF f [] pos acc = (acc, 0, 0) := by cases f <;> rfl
theorem lexF_cons (f pos : Nat) (acc : List Tok) (c : UInt8) (r : Str) : lexF (f + 1) (c :: r) pos acc =
    if c.toNat = 32 then lexF f r (pos + 1) acc
    else if (oneP (c :: r)).e = 0 then lexF f ((c :: r).drop (oneP (c :: r)).len) (pos + (oneP (c :: r)).len) (acc ++ [⟨(oneP (c :: r)).kind, (oneP (c :: r)).s, (oneP (c :: r)).n, pos⟩])
    else ([], pos, (oneP (c :: r)).e) := rfl
theorem lex_Lex (s : Str) (hs : s.length ≤ 2 ^ 30) : CallF Tryz.prog n_lex_Lex [.str s] (eLex (lexS s)) := by
  unfold lexS
  by_cases hbig : 200 < s.length
  · rw [if_pos hbig]
    refine CallF.of_nil (of_lex_Lex (by simp) ?_) rfl
    unfold b_lex_Lex WpR
    intro Q hQr hQn hQp
    repeat' first | refine go_ ?_ | refine br_ (fun hw => ?_) (fun hw => ?_) <;> try omega | fail
    refine leafN ?_
    exact vw_
  rw [if_neg hbig]
  generalize hT : lexF (s.length + 1) s 0 [] = T
  refine CallF.of_nil (of_lex_Lex (by simp) ?_) rfl
  unfold b_lex_Lex WpR
  intro Q hQr hQn hQp
  repeat' first | refine go_ ?_ | refine br_ (fun hw => ?_) (fun hw => ?_) <;> try omega | fail
  with_reducible refine loop_i [2, 3, 4, 5, 6, 7, 8, 12, 13, 14, 15, 16, 17, 18, 19, 20, 21, 22, 23, 24, 25, 26, 27, 28, 29, 30, 31, 32, 33, 34, 35, 36, 37, 38, 39, 40, 41, 42, 43, 44, 45, 46, 47, 48, 49, 50] (fun p : Nat × List Tok × List AObj => [(6, I p.1), (5, .own ET 0 p.2.1.length 0 p.2.1.length)]) (fun p => .vec ET (p.2.1.map eTok) :: p.2.2) (fun p => p.1 ≤ s.length ∧ p.2.1.length ≤ p.1 ∧ ∃ f, s.length - p.1 < f ∧ T = lexF f (s.drop p.1) p.1 p.2.1) (fun p => s.length - p.1) (0, [], []) ?_ ?_ ?_ ?_
  · exact ⟨by simp, by simp, s.length + 1, by omega, hT.symm⟩
  · rfl
  · exact at_
  rintro ⟨pos, acc, τ⟩ r ⟨h1, h2, f, h3, h4⟩
  dsimp only at h1 h2 h3 h4
  repeat' first | refine go_ ?_ | refine br_ (fun hw => ?_) (fun hw => ?_) <;> try omega | fail
  with_reducible refine loop_i [6, 12, 13, 14, 15, 16, 17, 18, 19, 20, 21, 22, 23] (fun p : Nat => [(6, I p)]) (fun _ => .vec ET (acc.map eTok) :: τ) (fun p => pos ≤ p ∧ p ≤ s.length ∧ ∃ f, s.length - p < f ∧ T = lexF f (s.drop p) p acc) (fun p => s.length - p) pos ?_ ?_ ?_ ?_
  · exact ⟨Nat.le_refl _, h1, f, h3, h4⟩
  · rfl
  · exact at_
  clear h3 h4
  clear f
  rintro p r2 ⟨k0, k1, f, k2, k3⟩
  obtain ⟨f, rfl⟩ : ∃ g, f = g + 1 := ⟨f - 1, by omega⟩
  by_cases hp : p < s.length
  · rw [drop_at0 hp, lexF_cons] at k3
    have hne : s.drop p ≠ [] := by rw [drop_at0 hp]; simp
    have hlen : (s.drop p).length ≤ 2 ^ 30 := by rw [List.length_drop]; omega
    rw [← drop_at0 hp] at k3
    have hnx := lex_next (s.drop p) hne hlen
    have hol := oneP_len hne
    rw [List.length_drop] at hol
    generalize oneP (s.drop p) = q at *
    obtain ⟨qk, qs, qn, ql, qe⟩ := q
    dsimp only at k3 hol
    repeat' first | refine go_ ?_ | refine cf_ hnx ?_ | refine br_ (fun hw => ?_) (fun hw => ?_) <;> try omega | fail
    · rw [if_pos (by omega)] at k3
      refine ⟨p + 1, ?_, ?_, by first | rfl | (simp [go_sem]; done), ou_, at_⟩ <;> (try dsimp only)
      · exact ⟨by omega, by omega, f, by omega, k3⟩
      · omega
    · rw [if_neg (by omega), if_neg hw] at k3
      refine leafN ?_
      rw [k3]
      exact ViewL.cons (View.nils _) (ViewL.refl rfl)
    · rw [if_neg (by omega), if_pos hw, List.drop_drop] at k3
      refine ⟨(p + ql, acc ++ [⟨qk, qs, qn, p⟩], τ ++ [.cells [I qk, .str qs, I qn, I p, I ql]]), ?_, ?_, by first | rfl | (simp [go_sem]; done), ou_, at_⟩ <;> (try dsimp only)
      · exact ⟨by omega, by simp; omega, f, by omega, k3⟩
      · omega
  · rw [List.drop_of_length_le (by omega), lexF_nil] at k3
    repeat' first | refine go_ ?_ | refine br_ (fun hw => ?_) (fun hw => ?_) <;> try omega | fail
    refine leafN ?_
    rw [k3]
    exact ViewL.cons (View.vec rfl (by simp) (by simp) (purL_t _)) (ViewL.refl rfl)
theorem takeWhile_more {p : UInt8 → Bool} : ∀ {s : Str} {i : Nat}, i ≤ (s.takeWhile p).length → i < s.length → p (s.getD i 0) = true → i < (s.takeWhile p).length
  | [], i, _, h, _ => by simp at h
  | c :: r, 0, _, _, hp => by simp only [List.getD_cons_zero] at hp; simp [List.takeWhile_cons, hp]
  | c :: r, i + 1, h1, h2, hp => by
    simp only [List.getD_cons_succ] at hp
    simp only [List.takeWhile_cons] at h1 ⊢
    split at h1
    · simp only [List.length_cons] at h1 h2 ⊢
      have := takeWhile_more (p := p) (s := r) (i := i) (by omega) (by omega) hp
      split <;> simp_all
    · simp at h1
def NInv (s : Str) (i : Nat) (v : Int) (over : Bool) : Prop := i ≤ (s.takeWhile digitB).length ∧ (over = false → numF (s.takeWhile digitB) 0 = numF ((s.takeWhile digitB).drop i) v) ∧ (over = true → numF (s.takeWhile digitB) 0 = none)
theorem NInv.step {s : Str} {i : Nat} {v : Int} (h : NInv s i v false) (hi : i < s.length) (hd : digitB (s.getD i 0) = true) :
    (v > (9223372036854775807 - (((s.getD i 0).toNat : Int) - 48)) / 10 → NInv s (i + 1) v true) ∧
    (¬ v > (9223372036854775807 - (((s.getD i 0).toNat : Int) - 48)) / 10 → NInv s (i + 1) (v * 10 + (((s.getD i 0).toNat : Int) - 48)) false) := by
  obtain ⟨h1, h2, _⟩ := h
  have hlt : i < (s.takeWhile digitB).length := takeWhile_more h1 hi hd
  have h3 := takeWhile_getD hlt
  have h4 : (s.takeWhile digitB).drop i = s.getD i 0 :: (s.takeWhile digitB).drop (i + 1) := by rw [drop_at0 hlt, ← h3.1]
  rw [h4] at h2
  simp only [numF] at h2
  refine ⟨fun hv => ⟨by omega, fun h => by simp at h, fun _ => ?_⟩, fun hv => ⟨by omega, fun _ => ?_, fun h => by simp at h⟩⟩
  · rw [h2 trivial, if_pos hv]
  · rw [h2 trivial, if_neg hv]
theorem NInv.over {s : Str} {i : Nat} {v : Int} (h : NInv s i v true) (hi : i < s.length) (hd : digitB (s.getD i 0) = true) : NInv s (i + 1) v true :=
  ⟨takeWhile_more h.1 hi hd, fun h => by simp at h, h.2.2⟩
theorem NInv.fin {s : Str} {i : Nat} {v : Int} {o : Bool} (h : NInv s i v o) (hi : i < s.length → digitB (s.getD i 0) = false) (hl : i ≤ s.length) : (s.takeWhile digitB).length = i ∧ numF (s.takeWhile digitB) 0 = if o then none else some v := by
  have hlen : (s.takeWhile digitB).length = i := by
    have h1 := h.1
    apply Nat.le_antisymm _ h1
    apply Nat.le_of_not_lt
    intro hlt
    have h3 := (takeWhile_getD hlt).2
    have : i < s.length := Nat.lt_of_lt_of_le hlt (takeWhile_le s)
    rw [hi this] at h3; cases h3
  refine ⟨hlen, ?_⟩
  cases o with
  | false => rw [h.2.1 rfl, List.drop_of_length_le (by omega)]; rfl
  | true => rw [h.2.2 rfl]; rfl
theorem find_at {α : Type} [Inhabited α] {p : α → Bool} {l : List α} {i : Nat} (hi : i < l.length) (h : ∀ k, k < i → p (l.getD k default) = false) (hp : p (l.getD i default) = true) : l.find? p = some (l.getD i default) := by
  have h1 := idxF_at hi h hp
  rcases find_idx p l with ⟨h2, h3⟩ | ⟨j, h2, h3, h4⟩
  · omega
  · have : j = i := by omega
    subst this; exact h4
theorem find_non {α : Type} [Inhabited α] {p : α → Bool} {l : List α} (h : ∀ k, k < l.length → p (l.getD k default) = false) : l.find? p = none := by
  have h1 := idxF_none h
  rcases find_idx p l with ⟨h2, h3⟩ | ⟨j, h2, h3, h4⟩
  · exact h3
  · omega
theorem any_at {α : Type} [Inhabited α] {p : α → Bool} {l : List α} {i : Nat} (hi : i < l.length) (hp : p (l.getD i default) = true) : l.any p = true := by
  rw [List.any_eq_true]; exact ⟨_, getD_mem hi, hp⟩
theorem any_non {α : Type} [Inhabited α] {p : α → Bool} {l : List α} (h : ∀ k, k < l.length → p (l.getD k default) = false) : l.any p = false := by
  rw [List.any_eq_false]
  intro x hx
  obtain ⟨k, hk, rfl⟩ := List.getElem_of_mem hx
  have := h k hk
  rw [List.getD_eq_getElem?_getD, List.getElem?_eq_getElem hk, Option.getD_some] at this
  simp [this]
theorem before_succ {q : Nat → Prop} {i : Nat} (h : ∀ k, k < i → q k) (hi : q i) : ∀ k, k < i + 1 → q k := fun k hk => by
  by_cases h2 : k < i
  · exact h k h2
  · have : k = i := by omega
    subst this; exact hi
theorem all_at {s : Str} {p : UInt8 → Bool} {i : Nat} (hi : i < s.length) (hp : p (s.getD i 0) = false) : s.all p = false := by
  rw [List.all_eq_false]
  refine ⟨s.getD i 0, ?_, ne_true_of_eq_false hp⟩
  rw [List.getD_eq_getElem?_getD, List.getElem?_eq_getElem hi]; exact List.getElem_mem hi
theorem all_non {s : Str} {p : UInt8 → Bool} (h : ∀ k, k < s.length → p (s.getD k 0) = true) : s.all p = true := by
  rw [List.all_eq_true]
  intro x hx
  obtain ⟨k, hk, rfl⟩ := List.getElem_of_mem hx
  have := h k hk
  rwa [List.getD_eq_getElem?_getD, List.getElem?_eq_getElem hk] at this
theorem printB_iff (c : UInt8) : printB c = true ↔ 32 ≤ c.toNat ∧ c.toNat ≤ 126 := by simp [printB]
theorem printB_niff (c : UInt8) : printB c = false ↔ c.toNat < 32 ∨ 126 < c.toNat := by
  rw [← Bool.not_eq_true, printB_iff]; omega
theorem value_plain (s : Str) : CallF Tryz.prog n_value_plain [.str s] (.bool (plainS s)) := by
  refine CallF.of_nil (of_value_plain (by simp) ?_) rfl
  unfold b_value_plain WpR
  intro Q hQr hQn hQp
  repeat' first | refine go_ ?_ | refine br_ (fun hw => ?_) (fun hw => ?_) <;> try omega | fail
  · refine leafE ?_ rfl
    simp only [plainS]; rw [decide_eq_false (by omega), Bool.false_and]
  with_reducible refine loop_i [2, 4, 10, 11, 12, 13, 14, 15, 16, 17, 18] (fun i : Nat => []) (fun i => [.siter s i]) (fun i => i ≤ s.length ∧ ∀ k, k < i → printB (s.getD k 0) = true) (fun i => s.length - i) 0 ?_ ?_ ?_ ?_
  · simp
  · rfl
  · exact at_
  rintro i r ⟨h1, h2⟩
  by_cases hi : i < s.length
  · by_cases ha : (s.getD i 0).toNat < 128
    · repeat' first | refine go_ ?_ | refine br_ (fun hw => ?_) (fun hw => ?_) <;> try omega | fail
      · refine leafE ?_ rfl
        simp only [plainS]; rw [all_at (p := printB) hi ((printB_niff _).2 (.inr (by omega))), Bool.and_false]
      · refine ⟨i + 1, ?_, ?_, by first | rfl | (simp [go_sem]; done), ou_, at_⟩ <;> (try dsimp only)
        · exact ⟨by omega, before_succ h2 ((printB_iff _).2 ⟨by omega, by omega⟩)⟩
        · omega
      · refine leafE ?_ rfl
        simp only [plainS]; rw [all_at (p := printB) hi ((printB_niff _).2 (.inl (by omega))), Bool.and_false]
    · have hw2 := wideRune_ge hi (by omega)
      repeat' first | refine go_ ?_ | refine br_ (fun hw => ?_) (fun hw => ?_) <;> try omega | fail
      all_goals refine leafE ?_ rfl
      all_goals (simp only [plainS]; rw [all_at (p := printB) hi ((printB_niff _).2 (.inr (by omega))), Bool.and_false])
  · have : i = s.length := by omega
    repeat' first | refine go_ ?_ | refine br_ (fun hw => ?_) (fun hw => ?_) <;> try omega | fail
    refine leafE ?_ rfl
    simp only [plainS]; rw [decide_eq_true (by omega), all_non (fun k hk => h2 k (by omega))]; rfl
theorem ref12_Plain (s : Str) (hs : s.length ≤ 2 ^ 62) : CallF Tryz.prog n_ref12_Plain [.str s] (.bool (plainS s)) := by
  refine CallF.of_nil (of_ref12_Plain (by simp) ?_) rfl
  unfold b_ref12_Plain WpR
  intro Q hQr hQn hQp
  repeat' first | refine go_ ?_ | refine br_ (fun hw => ?_) (fun hw => ?_) <;> try omega | fail
  with_reducible refine loop_i [2, 3, 4, 5, 6, 7, 8, 9, 10, 11, 12, 13, 14, 15, 16, 17, 18, 19] (fun i : Nat => [(3, I i)]) (fun i => []) (fun i => i ≤ s.length ∧ ∀ k, k < i → printB (s.getD k 0) = true) (fun i => s.length - i) (0) ?_ ?_ ?_ ?_
  · simp
  · rfl
  · exact at_
  rintro i r ⟨h1, h2⟩
  by_cases hi : i < s.length
  · repeat' first | refine go_ ?_ | refine br_ (fun hw => ?_) (fun hw => ?_) <;> try omega | fail
    · refine leafE ?_ rfl
      simp only [plainS]; rw [all_at (p := printB) hi ((printB_niff _).2 (.inr (by omega))), Bool.and_false]
    · refine ⟨i + 1, ?_, ?_, by first | rfl | (simp [go_sem]; done), ou_, at_⟩ <;> (try dsimp only)
      · exact ⟨by omega, before_succ h2 ((printB_iff _).2 ⟨by omega, by omega⟩)⟩
      · omega
    · refine leafE ?_ rfl
      simp only [plainS]; rw [all_at (p := printB) hi ((printB_niff _).2 (.inl (by omega))), Bool.and_false]
  · repeat' first | refine go_ ?_ | refine br_ (fun hw => ?_) (fun hw => ?_) <;> try omega | fail
    refine leafE ?_ rfl
    simp only [plainS]; rw [all_non (fun k hk => h2 k (by omega)), Bool.and_true]
    refine congrArg AV.bool ?_
    rw [Bool.eq_iff_iff, decide_eq_true_eq, decide_eq_true_eq]; omega
theorem rightV_0 (n : Int) (s : Str) : rightV ⟨0, n, s⟩ = (decide (n = 0) && decide (s = [])) := rfl
theorem rightV_1 (n : Int) (s : Str) : rightV ⟨1, n, s⟩ = decide (s = []) := rfl
theorem rightV_2 (n : Int) (s : Str) : rightV ⟨2, n, s⟩ = (decide (n = 0) && plainS s) := rfl
theorem rightV_3 (n : Int) (s : Str) : rightV ⟨3, n, s⟩ = (decide (s = []) && (decide (n = 0) || decide (n = 1))) := rfl
theorem rightV_o (k n : Int) (s : Str) (h0 : k ≠ 0) (h1 : k ≠ 1) (h2 : k ≠ 2) (h3 : k ≠ 3) : rightV ⟨k, n, s⟩ = false := by
  simp [rightV, h0, h1, h2, h3]
def errB (b : Bool) : Int := if b then 0 else 2
theorem bv_andNot1 (x : BitVec 64) : x &&& ~~~ 1#64 = 0#64 ↔ x = 0#64 ∨ x = 1#64 := by
  constructor
  · intro h
    have hb : ∀ i, 1 ≤ i → i < 64 → x.getLsbD i = false := fun i h1 h2 => by
      have := congrArg (fun y => BitVec.getLsbD y i) h
      have h3 : (1#64).getLsbD i = false := by
        rw [BitVec.getLsbD_one]; simp; omega
      simp only [BitVec.getLsbD_and, BitVec.getLsbD_not, h3, h2, decide_true, Bool.not_false, Bool.and_true, BitVec.getLsbD_zero] at this
      exact this
    cases h0 : x.getLsbD 0 with
    | false =>
      left
      apply BitVec.eq_of_getLsbD_eq
      intro i hi
      by_cases hz : i = 0
      · subst hz; rw [h0]; rfl
      · rw [hb i (by omega) hi]; simp
    | true =>
      right
      apply BitVec.eq_of_getLsbD_eq
      intro i hi
      by_cases hz : i = 0
      · subst hz; rw [h0]; rfl
      · rw [hb i (by omega) hi, BitVec.getLsbD_one]; simp [hz]
  · rintro (rfl | rfl) <;> decide
theorem wrap64_zero (m : Nat) (h : m < 18446744073709551616) : IntKind.wrap .i64 m = 0 ↔ m = 0 := by
  simp only [IntKind.wrap, IntKind.bits, IntKind.signed]
  simp
  omega
theorem and1 (n : Int) (h : -9223372036854775808 ≤ n) (h' : n ≤ 9223372036854775807) : bitsO .andNot .i64 n 1 = 0 ↔ n = 0 ∨ n = 1 := by
  rw [bitsO_eq]
  show IntKind.wrap .i64 ((BitVec.ofInt 64 n &&& ~~~ BitVec.ofInt 64 1).toNat : Int) = 0 ↔ _
  rw [wrap64_zero _ (BitVec.isLt _)]
  have h1 : (BitVec.ofInt 64 n &&& ~~~ BitVec.ofInt 64 1).toNat = 0 ↔ BitVec.ofInt 64 n &&& ~~~ 1#64 = 0#64 := by
    rw [← BitVec.toNat_inj]; rfl
  rw [h1, bv_andNot1, ← BitVec.toNat_inj, ← BitVec.toNat_inj]
  simp only [BitVec.toNat_ofInt, BitVec.toNat_ofNat]
  omega
theorem value_Check (k n : Int) (s : Str) (h : -9223372036854775808 ≤ n) (h' : n ≤ 9223372036854775807) : CallF Tryz.prog n_value_Check [.agg [I k, I n, .str s]] (I (errB (rightV ⟨k, n, s⟩))) := by
  refine CallF.of_nil (of_value_Check (by simp) ?_) rfl
  unfold b_value_Check WpR
  intro Q hQr hQn hQp
  repeat' first | refine go_ ?_ | refine cf_ (value_plain _) ?_ | refine br_ (fun hw => ?_) (fun hw => ?_) <;> try omega | fail
  all_goals refine leafE ?_ rfl
  all_goals (refine congrArg I ?_; unfold errB; try rw [and1 n h h'] at hw)
  all_goals (try subst k)
  all_goals first
    | (rw [if_neg (by rw [rightV_0]; simp_all)]; done)
    | (rw [if_pos (by rw [rightV_0]; simp_all)]; done)
    | (rw [if_neg (by rw [rightV_1]; simp_all)]; done)
    | (rw [if_pos (by rw [rightV_1]; simp_all)]; done)
    | (rw [if_neg (by rw [rightV_2]; simp_all)]; done)
    | (rw [if_pos (by rw [rightV_2]; simp_all)]; done)
    | (rw [if_neg (by rw [rightV_3]; simp_all)]; done)
    | (rw [if_pos (by rw [rightV_3]; simp_all)]; done)
    | (rw [if_neg (by rw [rightV_o _ _ _ (by assumption) (by assumption) (by assumption) (by assumption)]; simp)])
theorem ref12_Right (k n : Int) (s : Str) (hs : s.length ≤ 2 ^ 62) : CallF Tryz.prog n_ref12_Right [.agg [I k, I n, .str s]] (.bool (rightV ⟨k, n, s⟩)) := by
  refine CallF.of_nil (of_ref12_Right (by simp) ?_) rfl
  unfold b_ref12_Right WpR
  intro Q hQr hQn hQp
  repeat' first | refine go_ ?_ | refine cf_ (ref12_Plain _ hs) ?_ | refine br_ (fun hw => ?_) (fun hw => ?_) <;> try omega | fail
  all_goals refine leafE ?_ rfl
  all_goals (refine congrArg AV.bool ?_; try subst k)
  all_goals first
    | (rw [rightV_0]; rw [Bool.eq_iff_iff]; simp_all; done)
    | (rw [rightV_1]; rw [Bool.eq_iff_iff]; simp_all; done)
    | (rw [rightV_2]; rw [Bool.eq_iff_iff]; simp_all; done)
    | (rw [rightV_3]; rw [Bool.eq_iff_iff]; simp_all; done)
    | (rw [rightV_o _ _ _ (by assumption) (by assumption) (by assumption) (by assumption)])
structure Bin where
  op : Int
  sign : Str
  level : Int
deriving Inhabited, DecidableEq
def eBin (b : Bin) : AV := .agg [I b.op, .str b.sign, I b.level]
attribute [go_sem] eBin
def binL : List Bin := [⟨4, [43], 4⟩, ⟨5, [45], 4⟩, ⟨6, [42], 5⟩, ⟨7, [47], 5⟩, ⟨8, [61], 3⟩, ⟨9, [33, 61], 3⟩, ⟨10, [60], 3⟩, ⟨11, [60, 61], 3⟩, ⟨12, [62], 3⟩, ⟨13, [62, 61], 3⟩, ⟨14, [97, 110, 100], 2⟩, ⟨15, [111, 114], 1⟩]
def findB (op : Int) : Bin := (binL.find? fun b => b.op == op).getD ⟨0, [], 0⟩
def countS (op : Int) : Int := if op = 1 ∨ op = 2 then 0 else if op = 3 then 1 else if op = 16 then 3 else if 0 < (findB op).level then 2 else -1
def levelS (op : Int) : Int := if op = 16 then 0 else if op = 3 then 6 else if op = 1 ∨ op = 2 then 7 else (findB op).level
theorem findB_none (op : Int) (h : op < 4 ∨ 15 < op) : findB op = ⟨0, [], 0⟩ := by
  have : binL.find? (fun b => b.op == op) = none := by
    rw [List.find?_eq_none]
    intro b hb
    simp only [binL, List.mem_cons, List.not_mem_nil, or_false] at hb
    rcases hb with rfl | rfl | rfl | rfl | rfl | rfl | rfl | rfl | rfl | rfl | rfl | rfl <;> (simp only [beq_iff_eq]; omega)
  simp [findB, this]
theorem findB_some (op : Int) (h1 : 4 ≤ op) (h2 : op ≤ 15) : (findB op).sign ≠ [] ∧ 0 < (findB op).level := by
  have : op = 4 ∨ op = 5 ∨ op = 6 ∨ op = 7 ∨ op = 8 ∨ op = 9 ∨ op = 10 ∨ op = 11 ∨ op = 12 ∨ op = 13 ∨ op = 14 ∨ op = 15 := by omega
  rcases this with rfl | rfl | rfl | rfl | rfl | rfl | rfl | rfl | rfl | rfl | rfl | rfl <;> decide
theorem syntax_binaries : CallF Tryz.prog n_syntax_binaries [] (.lst false ⟨true, 3⟩ (binL.map eBin)) := by
  refine CallF.of_nil (of_syntax_binaries (by simp) ?_) rfl
  unfold b_syntax_binaries WpR
  intro Q hQr hQn hQp
  repeat' first | refine go_ ?_ | refine br_ (fun hw => ?_) (fun hw => ?_) <;> try omega | fail
  all_goals exact leaf1 (View.weak _ _ _ (by simp))
theorem syntax_find (op : Int) : CallF Tryz.prog n_syntax_find [I op] (eBin (findB op)) := by
  refine CallF.of_nil (of_syntax_find (by simp) ?_) rfl
  unfold b_syntax_find WpR
  intro Q hQr hQn hQp
  have hl : binL.length = 12 := rfl
  repeat' first | refine go_ ?_ | refine cf_ syntax_binaries ?_ | refine br_ (fun hw => ?_) (fun hw => ?_) <;> try omega | fail
  with_reducible refine loop_i [4, 7, 8, 9, 10, 11, 12, 13, 14, 15, 16] (fun p : Nat × List AObj => [(7, I p.1)]) (fun p => .cells [I 0, .str [], I 0] :: p.2) (fun p => p.1 ≤ 12 ∧ ∀ k, k < p.1 → ((binL.getD k default).op == op) = false) (fun p => 12 - p.1) (0, []) ?_ ?_ ?_ ?_
  · simp
  · rfl
  · exact at_
  rintro ⟨i, τ⟩ r ⟨h1, h2⟩
  dsimp only at h1 h2
  by_cases hi : i < 12
  · repeat' first | refine go_ ?_ | refine br_ (fun hw => ?_) (fun hw => ?_) <;> try omega | fail
    · refine leafE ?_ rfl
      have : findB op = binL.getD i default := by
        unfold findB; rw [find_at (p := fun b : Bin => b.op == op) hi h2 (by simpa using hw)]; rfl
      rw [this]; try rfl
    · refine ⟨(i + 1, τ ++ [.cells [I (binL.getD i default).op, .str (binL.getD i default).sign, I (binL.getD i default).level]]), ?_, ?_, by first | rfl | (simp [go_sem]; done), ou_, at_⟩ <;> (try dsimp only)
      · exact ⟨by omega, before_succ h2 (by simpa using hw)⟩
      · omega
  · repeat' first | refine go_ ?_ | refine br_ (fun hw => ?_) (fun hw => ?_) <;> try omega | fail
    refine leafE ?_ rfl
    have : findB op = ⟨0, [], 0⟩ := by
      unfold findB; rw [find_non (p := fun b : Bin => b.op == op) (fun k hk => h2 k (by omega))]; rfl
    rw [this]; try rfl
theorem syntax_count (op : Int) : CallF Tryz.prog n_syntax_count [I op] (I (countS op)) := by
  refine CallF.of_nil (of_syntax_count (by simp) ?_) rfl
  unfold b_syntax_count WpR
  intro Q hQr hQn hQp
  repeat' first | refine go_ ?_ | refine cf_ (syntax_find _) ?_ | refine br_ (fun hw => ?_) (fun hw => ?_) <;> try omega | fail
  all_goals refine leafE ?_ rfl
  all_goals (refine congrArg I ?_; unfold countS)
  all_goals first | (simp_all; done)
mutual
def deepS : Expr → Nat
  | .mk _ _ _ l => deepL l + 1
def deepL : List Expr → Nat
  | [] => 0
  | x :: r => Nat.max (deepS x) (deepL r)
end
mutual
def szS : Expr → Nat
  | .mk _ _ _ l => szL l + 1
def szL : List Expr → Nat
  | [] => 0
  | x :: r => szS x + szL r
end
theorem len_szL (l : List Expr) : l.length ≤ szL l := by
  induction l with
  | nil => simp [szL]
  | cons x r ih => cases x; simp only [szL, szS, List.length_cons]; omega
theorem mem_szL {l : List Expr} {x : Expr} (h : x ∈ l) : szS x ≤ szL l := by
  induction l with
  | nil => cases h
  | cons y r ih =>
    simp only [szL]
    rcases List.mem_cons.1 h with rfl | h
    · omega
    · have := ih h; omega
theorem deep_sz : ∀ x, deepS x ≤ szS x := by
  intro x
  induction x using Expr.ind with
  | h op v s l ih =>
    simp only [deepS, szS]
    have : deepL l ≤ szL l := by
      clear op v s
      induction l with
      | nil => simp [deepL]
      | cons y r ih2 =>
        simp only [deepL, szL]
        have h1 := ih y (by simp)
        have h2 := ih2 (fun z hz => ih z (List.mem_cons_of_mem _ hz))
        exact Nat.max_le.2 ⟨by omega, by omega⟩
    omega
theorem deepL_snoc (l : List Expr) (x : Expr) : deepL (l ++ [x]) = Nat.max (deepL l) (deepS x) := by
  induction l with
  | nil => simp only [List.nil_append, deepL]; exact Nat.max_comm _ _
  | cons y r ih => simp only [List.cons_append, deepL, ih]; exact (Nat.max_assoc _ _ _).symm
theorem take_succ {α : Type} [Inhabited α] {l : List α} {k : Nat} (h : k < l.length) : l.take (k + 1) = l.take k ++ [l.getD k default] := by
  rw [List.take_succ_eq_append_getElem h, List.getD_eq_getElem?_getD, List.getElem?_eq_getElem h]; rfl
theorem deepL_take {l : List Expr} {k : Nat} (h : k < l.length) : deepL (l.take (k + 1)) = Nat.max (deepL (l.take k)) (deepS (l.getD k default)) := by
  rw [take_succ h, deepL_snoc]
theorem deepL_le (l : List Expr) (k : Nat) : deepL (l.take k) ≤ szL l := by
  have : ∀ l : List Expr, deepL l ≤ szL l := fun l => by
    have := deep_sz (.mk 0 default [] l)
    simp only [deepS, szS] at this; omega
  refine Nat.le_trans (this _) ?_
  induction l generalizing k with
  | nil => simp [szL]
  | cons x r ih => cases k with
    | zero => simp [szL]
    | succ k => simp only [List.take_succ_cons, szL]; have := ih k; omega
theorem syntax_Deep (x : Expr) (hx : szS x ≤ 2 ^ 60) : CallF Tryz.prog n_syntax_Deep [eExpr x] (I (deepS x)) := by
  induction x using Expr.ind with
  | h op v s l ih =>
    simp only [szS] at hx
    have hlen := len_szL l
    have hih : ∀ k, k < l.length → CallF Tryz.prog n_syntax_Deep [eExpr (l.getD k default)] (I (deepS (l.getD k default))) := fun k hk =>
      ih _ (getD_mem hk) (by have := mem_szL (getD_mem hk); omega)
    refine CallF.of_nil (of_syntax_Deep (by simp) ?_) (by simp)
    unfold b_syntax_Deep WpR
    intro Q hQr hQn hQp
    repeat' first | refine go_ ?_ | refine br_ (fun hw => ?_) (fun hw => ?_) <;> try omega | fail
    with_reducible refine loop_i [3, 5, 9, 10, 11, 12, 13, 14, 15, 16, 17] (fun p : Nat × List AObj => [(9, I p.1), (3, I (deepL (l.take p.1)))]) (fun p => .cells [I op, I v.kind, I v.n, .str v.s, .str s, .lst false EX (l.map eExpr)] :: p.2) (fun p => p.1 ≤ l.length) (fun p => l.length - p.1) (0, []) ?_ ?_ ?_ ?_
    · simp
    · rfl
    · exact at_
    rintro ⟨i, τ⟩ r h1
    dsimp only at h1
    by_cases hi : i < l.length
    · have hy := hih i hi
      have hmax : (if ((deepL (l.take i) : Nat) : Int) < ((deepS (l.getD i default) : Nat) : Int) then ((deepS (l.getD i default) : Nat) : Int) else ((deepL (l.take i) : Nat) : Int)) = ((deepL (l.take (i + 1)) : Nat) : Int) := by
        rw [deepL_take hi]
        show _ = ((max (deepL (l.take i)) (deepS (l.getD i default)) : Nat) : Int)
        by_cases hm : deepL (l.take i) ≤ deepS (l.getD i default)
        · rw [Nat.max_eq_right hm]; split <;> omega
        · rw [Nat.max_eq_left (by omega)]; split <;> omega
      rw [eExpr_eq] at hy
      repeat' first | simp (disch := omega) only [go_sem, hQr, hQn, hQp, wrapK_i64, wrapK_u8, wrapK_u64, Nat.reduceAdd, Nat.reduceBEq, ↓reduceIte, hmax] | refine go_ ?_ | refine cf_ hy ?_ | refine br_ (fun hw => ?_) (fun hw => ?_) <;> try omega | fail
      refine ⟨(i + 1, τ ++ [.cells [I (l.getD i default).op, I (l.getD i default).v.kind, I (l.getD i default).v.n, .str (l.getD i default).v.s, .str (l.getD i default).s, .lst false EX ((l.getD i default).l.map eExpr)]]), ?_, ?_, by first | rfl | (simp [go_sem]; done), ou_, at_⟩ <;> (try dsimp only)
      · omega
      · omega
    · have h3 := deepL_le l l.length
      rw [List.take_length] at h3
      have h2 : l.take i = l := List.take_of_length_le (by omega)
      have h4 := deepL_le l i
      rw [h2] at h4
      repeat' first | simp (disch := omega) only [go_sem, hQr, hQn, hQp, wrapK_i64, wrapK_u8, wrapK_u64, Nat.reduceAdd, Nat.reduceBEq, ↓reduceIte, h2] | refine go_ ?_ | refine br_ (fun hw => ?_) (fun hw => ?_) <;> try omega | fail
      refine leafE ?_ rfl
      refine congrArg I ?_
      simp only [deepS]; omega
end Go.Proofs.YthkhdedadacakaaGreatDoor
