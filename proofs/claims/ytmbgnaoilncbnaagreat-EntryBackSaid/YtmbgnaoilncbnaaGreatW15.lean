/- Part of a proof: see Root. -/
import Derived.Test.YtmbgnaoilncbnaaGreatW14
set_option linter.unnecessarySimpa false
set_option linter.unusedSimpArgs false
set_option linter.unusedVariables false
namespace Go.Proofs.YtmbgnaoilncbnaaGreat
open Go.AM
set_option maxRecDepth 4000
theorem ref13_letter (c : UInt8) : CallF Tryz.prog n_ref13_letter [.int .u8 c.toNat] (.bool (letterB c)) := by
  refine CallF.of_nil (of_ref13_letter (by simp) ?_) rfl
  unfold b_ref13_letter WpR
  intro Q hQr hQn hQp
  repeat' first | refine go_ ?_ | refine br_ (fun hw => ?_) (fun hw => ?_) <;> try omega | fail
  all_goals refine leafE ?_ rfl
  all_goals (refine congrArg AV.bool ?_; rw [Bool.eq_iff_iff]; simp only [letterB, Bool.and_eq_true, Bool.or_eq_true, decide_eq_true_eq, beq_iff_eq, Bool.not_eq_true', decide_eq_false_iff_not, beq_eq_false_iff_ne, ne_eq, true_iff, false_iff, iff_true, iff_false, Bool.false_eq_true, Bool.true_eq_false, not_and, not_or] at *; omega)
theorem ref13_digit (c : UInt8) : CallF Tryz.prog n_ref13_digit [.int .u8 c.toNat] (.bool (digitB c)) := by
  refine CallF.of_nil (of_ref13_digit (by simp) ?_) rfl
  unfold b_ref13_digit WpR
  intro Q hQr hQn hQp
  repeat' first | refine go_ ?_ | refine br_ (fun hw => ?_) (fun hw => ?_) <;> try omega | fail
  all_goals refine leafE ?_ rfl
  all_goals (refine congrArg AV.bool ?_; rw [Bool.eq_iff_iff]; simp only [digitB, Bool.and_eq_true, Bool.or_eq_true, decide_eq_true_eq, beq_iff_eq, Bool.not_eq_true', decide_eq_false_iff_not, beq_eq_false_iff_ne, ne_eq, true_iff, false_iff, iff_true, iff_false, Bool.false_eq_true, Bool.true_eq_false, not_and, not_or] at *; omega)
theorem wordN_step (s : Str) (i : Nat) (hi : i < s.length) (h : wordN s = (if i = 0 then wordN s else i + ((s.drop i).takeWhile wordB).length)) :
    (letterB (s.getD i 0) = true ∨ 0 < i ∧ digitB (s.getD i 0) = true → wordN s = (i + 1) + ((s.drop (i + 1)).takeWhile wordB).length) ∧
    (¬ (letterB (s.getD i 0) = true ∨ 0 < i ∧ digitB (s.getD i 0) = true) → wordN s = i) := by
  by_cases h0 : i = 0
  · subst h0
    cases s with
    | nil => simp at hi
    | cons c r =>
      simp only [List.getD_cons_zero, Nat.lt_irrefl, false_and, or_false]
      refine ⟨fun hl => ?_, fun hl => ?_⟩
      · simp only [wordN, hl, if_true, List.takeWhile_cons, wordB, Bool.true_or, Nat.zero_add, List.drop_succ_cons, List.drop_zero]
        simp; omega
      · simp only [wordN, hl]; rfl
  · rw [if_neg h0, takeWhile_at hi] at h
    refine ⟨fun hl => ?_, fun hl => ?_⟩
    · have : wordB (s.getD i 0) = true := by
        simp only [wordB, Bool.or_eq_true]; rcases hl with h1 | h1
        · exact .inl h1
        · exact .inr h1.2
      rw [this, if_pos rfl] at h; omega
    · have : wordB (s.getD i 0) = false := by
        simp only [wordB, Bool.or_eq_false_iff]
        simp only [not_or, not_and, Bool.not_eq_true] at hl
        exact ⟨hl.1, hl.2 (by omega)⟩
      rw [this, if_neg (by simp)] at h; omega
def WInv (s : Str) (i : Nat) : Prop := wordN s = (if i = 0 then wordN s else i + ((s.drop i).takeWhile wordB).length)
theorem ref13_word (s : Str) (hs : s.length ≤ 2 ^ 62) : CallF Tryz.prog n_ref13_word [.str s] (I (wordN s)) := by
  refine CallF.of_nil (of_ref13_word (by simp) ?_) rfl
  unfold b_ref13_word WpR
  intro Q hQr hQn hQp
  repeat' first | refine go_ ?_ | refine br_ (fun hw => ?_) (fun hw => ?_) <;> try omega | fail
  with_reducible refine loop_i [3, 4, 5, 6, 7, 8, 9, 10, 11, 12, 13, 14, 15, 16, 17, 18, 19, 20, 21, 22, 23, 24, 25] (fun i : Nat => [(3, I i)]) (fun _ => []) (fun i => i ≤ s.length ∧ WInv s i) (fun i => s.length - i) (0) ?_ ?_ ?_ ?_
  · simp [WInv]
  · rfl
  · exact at_
  rintro i r ⟨h1, h2⟩
  by_cases hi : i < s.length
  · repeat' first | refine go_ ?_ | refine cf_ (ref13_letter _) ?_ | refine cf_ (ref13_digit _) ?_ | refine br_ (fun hw => ?_) (fun hw => ?_) <;> try omega | fail
    · refine ⟨i + 1, ?_, ?_, by first | rfl | (simp [go_sem]; done), ou_, at_⟩ <;> (try dsimp only)
      · refine ⟨by omega, ?_⟩
        have := (wordN_step s i hi h2).1 (.inr ⟨by omega, hw⟩)
        unfold WInv; rw [if_neg (by omega)]; exact this
      · omega
    · refine leafE ?_ rfl
      rw [(wordN_step s i hi h2).2 (by rintro (h | h); exact ne_true_of_eq_false ‹letterB _ = false› h; exact ne_true_of_eq_false hw h.2)]
    · refine leafE ?_ rfl
      rw [(wordN_step s i hi h2).2 (by rintro (h | h); exact ne_true_of_eq_false ‹letterB _ = false› h; omega)]
    · refine ⟨i + 1, ?_, ?_, by first | rfl | (simp [go_sem]; done), ou_, at_⟩ <;> (try dsimp only)
      · refine ⟨by omega, ?_⟩
        have := (wordN_step s i hi h2).1 (.inl hw)
        unfold WInv; rw [if_neg (by omega)]; exact this
      · omega
  · repeat' first | refine go_ ?_ | refine cf_ (ref13_letter _) ?_ | refine cf_ (ref13_digit _) ?_ | refine br_ (fun hw => ?_) (fun hw => ?_) <;> try omega | fail
    refine leafE ?_ rfl
    have : i = s.length := by omega
    unfold WInv at h2
    by_cases h0 : i = 0
    · subst h0
      have : s = [] := by cases s with | nil => rfl | cons => simp at this
      subst this; rfl
    · rw [if_neg h0, List.drop_of_length_le (by omega)] at h2
      rw [h2]; simp
theorem takeWhile_more {p : UInt8 → Bool} : ∀ {s : Str} {i : Nat}, i ≤ (s.takeWhile p).length → i < s.length → p (s.getD i 0) = true → i < (s.takeWhile p).length
  | [], i, _, h, _ => by simp at h
  | c :: r, 0, _, _, hp => by simp only [List.getD_cons_zero] at hp; simp [List.takeWhile_cons, hp]
  | c :: r, i + 1, h1, h2, hp => by
    simp only [List.getD_cons_succ] at hp
    simp only [List.takeWhile_cons] at h1 ⊢
    split at h1
    · simp only [List.length_cons] at h1 h2 ⊢
      have := takeWhile_more (p := p) (s := r) (i := i) (by omega) (by omega) hp
      split <;> simp_all
    · simp at h1
def NInv (s : Str) (i : Nat) (v : Int) (over : Bool) : Prop := i ≤ (s.takeWhile digitB).length ∧ (over = false → numF (s.takeWhile digitB) 0 = numF ((s.takeWhile digitB).drop i) v) ∧ (over = true → numF (s.takeWhile digitB) 0 = none)
theorem NInv.step {s : Str} {i : Nat} {v : Int} (h : NInv s i v false) (hi : i < s.length) (hd : digitB (s.getD i 0) = true) :
    (v > (9223372036854775807 - (((s.getD i 0).toNat : Int) - 48)) / 10 → NInv s (i + 1) v true) ∧
    (¬ v > (9223372036854775807 - (((s.getD i 0).toNat : Int) - 48)) / 10 → NInv s (i + 1) (v * 10 + (((s.getD i 0).toNat : Int) - 48)) false) := by
  obtain ⟨h1, h2, _⟩ := h
  have hlt : i < (s.takeWhile digitB).length := takeWhile_more h1 hi hd
  have h3 := takeWhile_getD hlt
  have h4 : (s.takeWhile digitB).drop i = s.getD i 0 :: (s.takeWhile digitB).drop (i + 1) := by rw [drop_at0 hlt, ← h3.1]
  rw [h4] at h2
  simp only [numF] at h2
  refine ⟨fun hv => ⟨by omega, fun h => by simp at h, fun _ => ?_⟩, fun hv => ⟨by omega, fun _ => ?_, fun h => by simp at h⟩⟩
  · rw [h2 trivial, if_pos hv]
  · rw [h2 trivial, if_neg hv]
theorem NInv.over {s : Str} {i : Nat} {v : Int} (h : NInv s i v true) (hi : i < s.length) (hd : digitB (s.getD i 0) = true) : NInv s (i + 1) v true :=
  ⟨takeWhile_more h.1 hi hd, fun h => by simp at h, h.2.2⟩
theorem NInv.fin {s : Str} {i : Nat} {v : Int} {o : Bool} (h : NInv s i v o) (hi : i < s.length → digitB (s.getD i 0) = false) (hl : i ≤ s.length) : (s.takeWhile digitB).length = i ∧ numF (s.takeWhile digitB) 0 = if o then none else some v := by
  have hlen : (s.takeWhile digitB).length = i := by
    have h1 := h.1
    apply Nat.le_antisymm _ h1
    apply Nat.le_of_not_lt
    intro hlt
    have h3 := (takeWhile_getD hlt).2
    have : i < s.length := Nat.lt_of_lt_of_le hlt (takeWhile_le s)
    rw [hi this] at h3; cases h3
  refine ⟨hlen, ?_⟩
  cases o with
  | false => rw [h.2.1 rfl, List.drop_of_length_le (by omega)]; rfl
  | true => rw [h.2.2 rfl]; rfl
theorem any_at {α : Type} [Inhabited α] {p : α → Bool} {l : List α} {i : Nat} (hi : i < l.length) (hp : p (l.getD i default) = true) : l.any p = true := by
  rw [List.any_eq_true]; exact ⟨_, getD_mem hi, hp⟩
theorem any_non {α : Type} [Inhabited α] {p : α → Bool} {l : List α} (h : ∀ k, k < l.length → p (l.getD k default) = false) : l.any p = false := by
  rw [List.any_eq_false]
  intro x hx
  obtain ⟨k, hk, rfl⟩ := List.getElem_of_mem hx
  have := h k hk
  rw [List.getD_eq_getElem?_getD, List.getElem?_eq_getElem hk, Option.getD_some] at this
  simp [this]
theorem before_succ {q : Nat → Prop} {i : Nat} (h : ∀ k, k < i → q k) (hi : q i) : ∀ k, k < i + 1 → q k := fun k hk => by
  by_cases h2 : k < i
  · exact h k h2
  · have : k = i := by omega
    subst this; exact hi
theorem ref13_Reserved (s : Str) : CallF Tryz.prog n_ref13_Reserved [.str s] (.bool (reservedS s)) := by
  have hre : reservedS s = reservedL.any (fun x => x == s) := by
    unfold reservedS; rw [Bool.eq_iff_iff, List.contains_iff_mem, List.any_eq_true]; simp
  rw [hre]
  refine CallF.of_nil (of_ref13_Reserved (by simp) ?_) rfl
  unfold b_ref13_Reserved WpR
  intro Q hQr hQn hQp
  repeat' first | refine go_ ?_ | refine br_ (fun hw => ?_) (fun hw => ?_) <;> try omega | fail
  have e1 : reservedL.length = 9 := rfl
  have e2 : [AV.str [97, 110, 100], AV.str [111, 114], AV.str [110, 111, 116], AV.str [105, 102], AV.str [116, 104, 101, 110], AV.str [101, 108, 115, 101], AV.str [116, 114, 117, 101], AV.str [102, 97, 108, 115, 101], AV.str [110, 117, 108, 108]] = reservedL.map eStr := rfl
  rw [e2]
  with_reducible refine loop_i [2, 4, 6, 7, 8, 9, 10, 11, 12, 13, 14, 15, 16, 17] (fun i : Nat => [(4, I i)]) (fun _ => []) (fun i => i ≤ 9 ∧ ∀ k, k < i → (reservedL.getD k default == s) = false) (fun i => 9 - i) 0 ?_ ?_ ?_ ?_
  · simp
  · rfl
  · exact at_
  rintro i r ⟨h1, h2⟩
  by_cases hi : i < 9
  · repeat' first | refine go_ ?_ | refine br_ (fun hw => ?_) (fun hw => ?_) <;> try omega | fail
    · refine leafE ?_ rfl
      rw [any_at (p := fun x : Str => x == s) hi (by simpa using hw)]
    · refine ⟨i + 1, ?_, ?_, by first | rfl | (simp [go_sem]; done), ou_, at_⟩ <;> (try dsimp only)
      · exact ⟨by omega, before_succ h2 (by simpa using hw)⟩
      · omega
  · repeat' first | refine go_ ?_ | refine br_ (fun hw => ?_) (fun hw => ?_) <;> try omega | fail
    refine leafE ?_ rfl
    rw [any_non (p := fun x : Str => x == s) (fun k hk => h2 k (by omega))]
theorem ref13_Name (s : Str) (hs : s.length ≤ 2 ^ 62) : CallF Tryz.prog n_ref13_Name [.str s] (.bool (nameS s)) := by
  refine CallF.of_nil (of_ref13_Name (by simp) ?_) rfl
  unfold b_ref13_Name WpR
  intro Q hQr hQn hQp
  repeat' first | refine go_ ?_ | refine cf_ (ref13_word _ hs) ?_ | refine cf_ (ref13_Reserved _) ?_ | refine br_ (fun hw => ?_) (fun hw => ?_) <;> try omega | fail
  all_goals refine leafE ?_ rfl
  all_goals (refine congrArg AV.bool ?_; simp [nameS]; try simp_all; try omega)
theorem all_at {s : Str} {p : UInt8 → Bool} {i : Nat} (hi : i < s.length) (hp : p (s.getD i 0) = false) : s.all p = false := by
  rw [List.all_eq_false]
  refine ⟨s.getD i 0, ?_, ne_true_of_eq_false hp⟩
  rw [List.getD_eq_getElem?_getD, List.getElem?_eq_getElem hi]; exact List.getElem_mem hi
theorem all_non {s : Str} {p : UInt8 → Bool} (h : ∀ k, k < s.length → p (s.getD k 0) = true) : s.all p = true := by
  rw [List.all_eq_true]
  intro x hx
  obtain ⟨k, hk, rfl⟩ := List.getElem_of_mem hx
  have := h k hk
  rwa [List.getD_eq_getElem?_getD, List.getElem?_eq_getElem hk] at this
theorem printB_iff (c : UInt8) : printB c = true ↔ 32 ≤ c.toNat ∧ c.toNat ≤ 126 := by simp [printB]
theorem printB_niff (c : UInt8) : printB c = false ↔ c.toNat < 32 ∨ 126 < c.toNat := by
  rw [← Bool.not_eq_true, printB_iff]; omega
theorem value_plain (s : Str) : CallF Tryz.prog n_value_plain [.str s] (.bool (plainS s)) := by
  refine CallF.of_nil (of_value_plain (by simp) ?_) rfl
  unfold b_value_plain WpR
  intro Q hQr hQn hQp
  repeat' first | refine go_ ?_ | refine br_ (fun hw => ?_) (fun hw => ?_) <;> try omega | fail
  · refine leafE ?_ rfl
    simp only [plainS]; rw [decide_eq_false (by omega), Bool.false_and]
  with_reducible refine loop_i [2, 4, 10, 11, 12, 13, 14, 15, 16, 17, 18] (fun i : Nat => []) (fun i => [.siter s i]) (fun i => i ≤ s.length ∧ ∀ k, k < i → printB (s.getD k 0) = true) (fun i => s.length - i) 0 ?_ ?_ ?_ ?_
  · simp
  · rfl
  · exact at_
  rintro i r ⟨h1, h2⟩
  by_cases hi : i < s.length
  · by_cases ha : (s.getD i 0).toNat < 128
    · repeat' first | refine go_ ?_ | refine br_ (fun hw => ?_) (fun hw => ?_) <;> try omega | fail
      · refine leafE ?_ rfl
        simp only [plainS]; rw [all_at (p := printB) hi ((printB_niff _).2 (.inr (by omega))), Bool.and_false]
      · refine ⟨i + 1, ?_, ?_, by first | rfl | (simp [go_sem]; done), ou_, at_⟩ <;> (try dsimp only)
        · exact ⟨by omega, before_succ h2 ((printB_iff _).2 ⟨by omega, by omega⟩)⟩
        · omega
      · refine leafE ?_ rfl
        simp only [plainS]; rw [all_at (p := printB) hi ((printB_niff _).2 (.inl (by omega))), Bool.and_false]
    · have hw2 := wideRune_ge hi (by omega)
      repeat' first | refine go_ ?_ | refine br_ (fun hw => ?_) (fun hw => ?_) <;> try omega | fail
      all_goals refine leafE ?_ rfl
      all_goals (simp only [plainS]; rw [all_at (p := printB) hi ((printB_niff _).2 (.inr (by omega))), Bool.and_false])
  · have : i = s.length := by omega
    repeat' first | refine go_ ?_ | refine br_ (fun hw => ?_) (fun hw => ?_) <;> try omega | fail
    refine leafE ?_ rfl
    simp only [plainS]; rw [decide_eq_true (by omega), all_non (fun k hk => h2 k (by omega))]; rfl
theorem ref12_Plain (s : Str) (hs : s.length ≤ 2 ^ 62) : CallF Tryz.prog n_ref12_Plain [.str s] (.bool (plainS s)) := by
  refine CallF.of_nil (of_ref12_Plain (by simp) ?_) rfl
  unfold b_ref12_Plain WpR
  intro Q hQr hQn hQp
  repeat' first | refine go_ ?_ | refine br_ (fun hw => ?_) (fun hw => ?_) <;> try omega | fail
  with_reducible refine loop_i [2, 3, 4, 5, 6, 7, 8, 9, 10, 11, 12, 13, 14, 15, 16, 17, 18, 19] (fun i : Nat => [(3, I i)]) (fun i => []) (fun i => i ≤ s.length ∧ ∀ k, k < i → printB (s.getD k 0) = true) (fun i => s.length - i) (0) ?_ ?_ ?_ ?_
  · simp
  · rfl
  · exact at_
  rintro i r ⟨h1, h2⟩
  by_cases hi : i < s.length
  · repeat' first | refine go_ ?_ | refine br_ (fun hw => ?_) (fun hw => ?_) <;> try omega | fail
    · refine leafE ?_ rfl
      simp only [plainS]; rw [all_at (p := printB) hi ((printB_niff _).2 (.inr (by omega))), Bool.and_false]
    · refine ⟨i + 1, ?_, ?_, by first | rfl | (simp [go_sem]; done), ou_, at_⟩ <;> (try dsimp only)
      · exact ⟨by omega, before_succ h2 ((printB_iff _).2 ⟨by omega, by omega⟩)⟩
      · omega
    · refine leafE ?_ rfl
      simp only [plainS]; rw [all_at (p := printB) hi ((printB_niff _).2 (.inl (by omega))), Bool.and_false]
  · repeat' first | refine go_ ?_ | refine br_ (fun hw => ?_) (fun hw => ?_) <;> try omega | fail
    refine leafE ?_ rfl
    simp only [plainS]; rw [all_non (fun k hk => h2 k (by omega)), Bool.and_true]
    refine congrArg AV.bool ?_
    rw [Bool.eq_iff_iff, decide_eq_true_eq, decide_eq_true_eq]; omega
theorem rightV_0 (n : Int) (s : Str) : rightV ⟨0, n, s⟩ = (decide (n = 0) && decide (s = [])) := rfl
theorem rightV_1 (n : Int) (s : Str) : rightV ⟨1, n, s⟩ = decide (s = []) := rfl
theorem rightV_2 (n : Int) (s : Str) : rightV ⟨2, n, s⟩ = (decide (n = 0) && plainS s) := rfl
theorem rightV_3 (n : Int) (s : Str) : rightV ⟨3, n, s⟩ = (decide (s = []) && (decide (n = 0) || decide (n = 1))) := rfl
theorem rightV_o (k n : Int) (s : Str) (h0 : k ≠ 0) (h1 : k ≠ 1) (h2 : k ≠ 2) (h3 : k ≠ 3) : rightV ⟨k, n, s⟩ = false := by
  simp [rightV, h0, h1, h2, h3]
def errB (b : Bool) : Int := if b then 0 else 2
theorem bv_andNot1 (x : BitVec 64) : x &&& ~~~ 1#64 = 0#64 ↔ x = 0#64 ∨ x = 1#64 := by
  constructor
  · intro h
    have hb : ∀ i, 1 ≤ i → i < 64 → x.getLsbD i = false := fun i h1 h2 => by
      have := congrArg (fun y => BitVec.getLsbD y i) h
      have h3 : (1#64).getLsbD i = false := by
        rw [BitVec.getLsbD_one]; simp; omega
      simp only [BitVec.getLsbD_and, BitVec.getLsbD_not, h3, h2, decide_true, Bool.not_false, Bool.and_true, BitVec.getLsbD_zero] at this
      exact this
    cases h0 : x.getLsbD 0 with
    | false =>
      left
      apply BitVec.eq_of_getLsbD_eq
      intro i hi
      by_cases hz : i = 0
      · subst hz; rw [h0]; rfl
      · rw [hb i (by omega) hi]; simp
    | true =>
      right
      apply BitVec.eq_of_getLsbD_eq
      intro i hi
      by_cases hz : i = 0
      · subst hz; rw [h0]; rfl
      · rw [hb i (by omega) hi, BitVec.getLsbD_one]; simp [hz]
  · rintro (rfl | rfl) <;> decide
theorem wrap64_zero (m : Nat) (h : m < 18446744073709551616) : IntKind.wrap .i64 m = 0 ↔ m = 0 := by
  simp only [IntKind.wrap, IntKind.bits, IntKind.signed]
  simp
  omega
theorem and1 (n : Int) (h : -9223372036854775808 ≤ n) (h' : n ≤ 9223372036854775807) : bitsO .andNot .i64 n 1 = 0 ↔ n = 0 ∨ n = 1 := by
  rw [bitsO_eq]
  show IntKind.wrap .i64 ((BitVec.ofInt 64 n &&& ~~~ BitVec.ofInt 64 1).toNat : Int) = 0 ↔ _
  rw [wrap64_zero _ (BitVec.isLt _)]
  have h1 : (BitVec.ofInt 64 n &&& ~~~ BitVec.ofInt 64 1).toNat = 0 ↔ BitVec.ofInt 64 n &&& ~~~ 1#64 = 0#64 := by
    rw [← BitVec.toNat_inj]; rfl
  rw [h1, bv_andNot1, ← BitVec.toNat_inj, ← BitVec.toNat_inj]
  simp only [BitVec.toNat_ofInt, BitVec.toNat_ofNat]
  omega
theorem value_Check (k n : Int) (s : Str) (h : -9223372036854775808 ≤ n) (h' : n ≤ 9223372036854775807) : CallF Tryz.prog n_value_Check [.agg [I k, I n, .str s]] (I (errB (rightV ⟨k, n, s⟩))) := by
  refine CallF.of_nil (of_value_Check (by simp) ?_) rfl
  unfold b_value_Check WpR
  intro Q hQr hQn hQp
  repeat' first | refine go_ ?_ | refine cf_ (value_plain _) ?_ | refine br_ (fun hw => ?_) (fun hw => ?_) <;> try omega | fail
  all_goals refine leafE ?_ rfl
  all_goals (refine congrArg I ?_; unfold errB; try rw [and1 n h h'] at hw)
  all_goals (try subst k)
  all_goals first
    | (rw [if_neg (by rw [rightV_0]; simp_all)]; done)
    | (rw [if_pos (by rw [rightV_0]; simp_all)]; done)
    | (rw [if_neg (by rw [rightV_1]; simp_all)]; done)
    | (rw [if_pos (by rw [rightV_1]; simp_all)]; done)
    | (rw [if_neg (by rw [rightV_2]; simp_all)]; done)
    | (rw [if_pos (by rw [rightV_2]; simp_all)]; done)
    | (rw [if_neg (by rw [rightV_3]; simp_all)]; done)
    | (rw [if_pos (by rw [rightV_3]; simp_all)]; done)
    | (rw [if_neg (by rw [rightV_o _ _ _ (by assumption) (by assumption) (by assumption) (by assumption)]; simp)])
theorem ref12_Right (k n : Int) (s : Str) (hs : s.length ≤ 2 ^ 62) : CallF Tryz.prog n_ref12_Right [.agg [I k, I n, .str s]] (.bool (rightV ⟨k, n, s⟩)) := by
  refine CallF.of_nil (of_ref12_Right (by simp) ?_) rfl
  unfold b_ref12_Right WpR
  intro Q hQr hQn hQp
  repeat' first | refine go_ ?_ | refine cf_ (ref12_Plain _ hs) ?_ | refine br_ (fun hw => ?_) (fun hw => ?_) <;> try omega | fail
  all_goals refine leafE ?_ rfl
  all_goals (refine congrArg AV.bool ?_; try subst k)
  all_goals first
    | (rw [rightV_0]; rw [Bool.eq_iff_iff]; simp_all; done)
    | (rw [rightV_1]; rw [Bool.eq_iff_iff]; simp_all; done)
    | (rw [rightV_2]; rw [Bool.eq_iff_iff]; simp_all; done)
    | (rw [rightV_3]; rw [Bool.eq_iff_iff]; simp_all; done)
    | (rw [rightV_o _ _ _ (by assumption) (by assumption) (by assumption) (by assumption)])
end Go.Proofs.YtmbgnaoilncbnaaGreat
namespace Go.Proofs.YtmbgnaoilncbnaaGreat
open Go.AM
def v0 : Val := ⟨0, 0, []⟩
def codeN (n : Int) : Nat := if n < 0 then (2 * (-1 - n) + 1).toNat else (2 * n).toNat
def numC (c : Nat) : Int := if c % 2 = 1 then -1 - (c / 2 : Nat) else (c / 2 : Nat)
def varF : Nat → Nat → Str
  | 0, c => [UInt8.ofNat c]
  | f + 1, c => if c < 128 then [UInt8.ofNat c] else UInt8.ofNat (128 + c % 128) :: varF f (c / 128)
def numB (n : Int) : Str := varF 9 (codeN n)
def goV (i c : Nat) : Str → Int × Str × Int
  | [] => (0, [], 3)
  | b :: r => if (0 < i ∧ b.toNat = 0) ∨ (i = 9 ∧ 1 < b.toNat) then (0, [], 4)
    else if b.toNat < 128 then (numC (c + b.toNat % 128 * 128 ^ i), r, 0)
    else goV (i + 1) (c + b.toNat % 128 * 128 ^ i) r
def takeN (s : Str) : Int × Str × Int := goV 0 0 s
def textB (s : Str) : Str := numB s.length ++ s
def takeT (s : Str) (most : Int) : Str × Str × Int :=
  if (takeN s).2.2 ≠ 0 then ([], [], (takeN s).2.2) else if (takeN s).1 < 0 then ([], [], 4) else if (takeN s).1 > most then ([], [], 5) else if (takeN s).1 > (takeN s).2.1.length then ([], [], 3)
  else ((takeN s).2.1.take (takeN s).1.toNat, (takeN s).2.1.drop (takeN s).1.toNat, 0)
theorem numC_codeN (n : Int) : numC (codeN n) = n := by
  unfold numC codeN; split <;> split <;> omega
theorem codeN_lt {n : Int} (h : -9223372036854775808 ≤ n) (h' : n ≤ 9223372036854775807) : codeN n < 18446744073709551616 := by
  unfold codeN; split <;> omega
theorem u8 (n : Nat) (h : n < 256) : (UInt8.ofNat n).toNat = n := by simp [UInt8.toNat_ofNat']; omega
theorem goV_varF (r : Str) : ∀ (k i c : Nat), i + k = 9 → c * 128 ^ i < 18446744073709551616 → (0 < i → 0 < c) → ∀ d, goV i d (varF k c ++ r) = (numC (d + c * 128 ^ i), r, 0) := by
  intro k
  induction k with
  | zero =>
    intro i c h1 h2 h3 d
    obtain rfl : i = 9 := by omega
    have e : (128 : Nat) ^ 9 = 9223372036854775808 := by decide
    rw [e] at h2
    rw [varF, List.singleton_append, goV, u8 c (by omega), if_neg (by omega), if_pos (by omega), Nat.mod_eq_of_lt (by omega)]
  | succ k ih =>
    intro i c h1 h2 h3 d
    rw [varF]
    by_cases hc : c < 128
    · rw [if_pos hc, List.singleton_append, goV, u8 c (by omega), if_neg (by omega), if_pos hc, Nat.mod_eq_of_lt hc]
    · rw [if_neg hc, List.cons_append, goV, u8 _ (by omega), if_neg (by omega), if_neg (by omega)]
      have e2 : c / 128 * 128 ^ (i + 1) = 128 * (c / 128) * 128 ^ i := by
        rw [Nat.pow_succ, Nat.mul_comm (128 ^ i) 128, ← Nat.mul_assoc, Nat.mul_comm (c / 128) 128]
      have e : (128 + c % 128) % 128 = c % 128 := by omega
      rw [ih (i + 1) (c / 128) (by omega) (Nat.lt_of_le_of_lt (by rw [e2]; exact Nat.mul_le_mul_right _ (by omega)) h2) (by omega), e, e2, Nat.add_assoc, ← Nat.add_mul]
      rw [show c % 128 + 128 * (c / 128) = c by omega]
theorem takeN_num {n : Int} (h : -9223372036854775808 ≤ n ∧ n ≤ 9223372036854775807) (r : Str) : takeN (numB n ++ r) = (n, r, 0) := by
  have := codeN_lt h.1 h.2
  unfold takeN numB
  rw [goV_varF r 9 0 (codeN n) (by omega) (by omega) (by omega) 0]
  simp [numC_codeN]
theorem takeT_text {s : Str} {most : Int} (h : s.length ≤ most) (h' : (s.length : Int) ≤ 9223372036854775807) (r : Str) : takeT (textB s ++ r) most = (s, r, 0) := by
  unfold takeT textB
  rw [List.append_assoc, takeN_num ⟨by omega, h'⟩]
  dsimp only
  rw [if_neg (by omega), if_neg (by omega), if_neg (by omega), if_neg (by rw [List.length_append]; omega)]
  simp
theorem goV_len : ∀ (s : Str) (i c : Nat), (goV i c s).2.1.length ≤ s.length ∧ ((goV i c s).2.2 = 0 → (goV i c s).2.1.length < s.length) ∧ ((goV i c s).2.2 ≠ 0 → (goV i c s).1 = 0 ∧ (goV i c s).2.1 = []) := by
  intro s
  induction s with
  | nil => intro i c; simp [goV]
  | cons b r ih =>
    intro i c
    rw [goV]
    split
    · simp
    · split
      · simp
      · have := ih (i + 1) (c + b.toNat % 128 * 128 ^ i)
        simp only [List.length_cons]
        refine ⟨by omega, fun h => ?_, this.2.2⟩
        have := this.2.1 h; omega
theorem numC_rng {c : Nat} (h : c < 18446744073709551616) : -9223372036854775808 ≤ numC c ∧ numC c ≤ 9223372036854775807 := by
  unfold numC; split <;> omega
theorem goV_rng : ∀ (s : Str) (i c : Nat), i ≤ 9 → c < 128 ^ i → -9223372036854775808 ≤ (goV i c s).1 ∧ (goV i c s).1 ≤ 9223372036854775807 := by
  intro s
  induction s with
  | nil => intro i c _ _; simp [goV]
  | cons b r ih =>
    intro i c hi hc
    rw [goV]
    split
    · simp
    · rename_i h1
      have hb : b.toNat < 256 := b.toNat_lt
      split
      · rename_i h2
        apply numC_rng
        by_cases h9 : i = 9
        · subst h9
          have e : (128 : Nat) ^ 9 = 9223372036854775808 := by decide
          rw [e] at hc ⊢; omega
        · have e : (128 : Nat) ^ (i + 1) ≤ 128 ^ 9 := Nat.pow_le_pow_right (by decide) (by omega)
          rw [Nat.pow_succ] at e
          have e2 : (128 : Nat) ^ 9 = 9223372036854775808 := by decide
          have : b.toNat % 128 * 128 ^ i ≤ 127 * 128 ^ i := Nat.mul_le_mul_right _ (by omega)
          omega
      · rename_i h2
        have h9 : i ≠ 9 := fun e => by subst e; omega
        apply ih _ _ (by omega)
        rw [Nat.pow_succ]
        have : b.toNat % 128 * 128 ^ i ≤ 127 * 128 ^ i := Nat.mul_le_mul_right _ (by omega)
        omega
theorem takeN_rng (s : Str) : -9223372036854775808 ≤ (takeN s).1 ∧ (takeN s).1 ≤ 9223372036854775807 := goV_rng s 0 0 (by omega) (by decide)
theorem takeN_len (s : Str) : (takeN s).2.1.length ≤ s.length ∧ ((takeN s).2.2 = 0 → (takeN s).2.1.length < s.length) ∧ ((takeN s).2.2 ≠ 0 → (takeN s).1 = 0 ∧ (takeN s).2.1 = []) := goV_len s 0 0
theorem takeT_len (s : Str) (m : Int) : (takeT s m).1.length ≤ s.length ∧ (takeT s m).2.1.length ≤ s.length ∧ ((takeT s m).2.2 = 0 → (takeT s m).2.1.length < s.length ∧ (takeT s m).1.length ≤ m) ∧ ((takeT s m).2.2 ≠ 0 → (takeT s m).1 = [] ∧ (takeT s m).2.1 = []) := by
  have := takeN_len s
  unfold takeT
  repeat' split
  all_goals first
    | (refine ⟨by simp, by simp, fun h => ?_, fun _ => ⟨rfl, rfl⟩⟩; dsimp only at h; omega)
    | (dsimp only; rw [List.length_take, List.length_drop]; refine ⟨by omega, by omega, fun _ => ?_, fun h => absurd rfl h⟩; have := this.2.1 (by omega); omega)
def bytesV (v : Val) : Str := numB v.kind ++ (if v.kind = 2 then textB v.s else if v.kind = 1 ∨ v.kind = 3 then numB v.n else [])
def okV (v : Val) (r : Str) : Val × Str × Int := if rightV v then (v, r, 0) else (v0, [], 4)
def takeV (s : Str) : Val × Str × Int :=
  if (takeN s).2.2 ≠ 0 then (v0, [], (takeN s).2.2)
  else if (takeN s).1 = 0 then (v0, (takeN s).2.1, 0)
  else if (takeN s).1 = 1 ∨ (takeN s).1 = 3 then
    if (takeN (takeN s).2.1).2.2 ≠ 0 then (v0, [], (takeN (takeN s).2.1).2.2) else okV ⟨(takeN s).1, (takeN (takeN s).2.1).1, []⟩ (takeN (takeN s).2.1).2.1
  else if (takeN s).1 = 2 then
    if (takeT (takeN s).2.1 40).2.2 ≠ 0 then (v0, [], (takeT (takeN s).2.1 40).2.2) else okV ⟨2, 0, (takeT (takeN s).2.1 40).1⟩ (takeT (takeN s).2.1 40).2.1
  else (v0, [], 4)
def rowB (l : List Val) : Str := numB l.length ++ l.flatMap bytesV
def takeVs : Nat → List Val → Str → List Val × Str × Int
  | 0, out, s => (out, s, 0)
  | k + 1, out, s => if (takeV s).2.2 ≠ 0 then ([], [], (takeV s).2.2) else takeVs k (out ++ [(takeV s).1]) (takeV s).2.1
def takeR (s : Str) (most : Int) : List Val × Str × Int :=
  if (takeN s).2.2 ≠ 0 then ([], [], (takeN s).2.2) else if (takeN s).1 < 0 then ([], [], 4) else if (takeN s).1 > most then ([], [], 5)
  else takeVs (takeN s).1.toNat [] (takeN s).2.1
theorem rightV_kind {v : Val} (h : rightV v = true) : v.kind = 0 ∧ v = v0 ∨ v.kind = 1 ∧ v.s = [] ∨ v.kind = 2 ∧ v.n = 0 ∧ v.s.length ≤ 40 ∨ v.kind = 3 ∧ v.s = [] := by
  obtain ⟨k, n, s⟩ := v
  unfold rightV at h
  dsimp only at h ⊢
  split at h
  · left; simp at h; simp [v0, *]
  split at h
  · right; left; simp at h; simp [*]
  split at h
  · right; right; left; simp [plainS] at h; simp [*]
  split at h
  · right; right; right; simp at h; simp [*]
  · cases h
theorem takeV_bytes {v : Val} (h : rightV v = true) (hn : -9223372036854775808 ≤ v.n ∧ v.n ≤ 9223372036854775807) (r : Str) : takeV (bytesV v ++ r) = (v, r, 0) := by
  have hk := rightV_kind h
  have hT : ∀ x, takeN (numB v.kind ++ x) = (v.kind, x, 0) := fun x => takeN_num (by omega) x
  unfold takeV bytesV
  rw [List.append_assoc, hT]
  dsimp only
  rw [if_neg (by simp)]
  rcases hk with ⟨hk, hv⟩ | ⟨hk, hs⟩ | ⟨hk, h0, hs⟩ | ⟨hk, hs⟩
  · rw [if_pos hk, if_neg (by omega), if_neg (by omega), hv]; rfl
  · have e : (if v.kind = 2 then textB v.s else if v.kind = 1 ∨ v.kind = 3 then numB v.n else []) = numB v.n := by rw [if_neg (by omega), if_pos (by omega)]
    rw [if_neg (by omega), if_pos (by omega), e, takeN_num hn]
    dsimp only
    rw [if_neg (by simp), ← hs]; unfold okV; rw [if_pos h]
  · rw [if_neg (by omega), if_neg (by omega), if_pos hk, if_pos hk, takeT_text (by omega) (by omega)]
    dsimp only
    rw [if_neg (by simp)]; unfold okV; rw [← hk, ← h0, if_pos h]
  · have e : (if v.kind = 2 then textB v.s else if v.kind = 1 ∨ v.kind = 3 then numB v.n else []) = numB v.n := by rw [if_neg (by omega), if_pos (by omega)]
    rw [if_neg (by omega), if_pos (by omega), e, takeN_num hn]
    dsimp only
    rw [if_neg (by simp), ← hs]; unfold okV; rw [if_pos h]
theorem okV_ok (v : Val) (r : Str) (hv : -9223372036854775808 ≤ v.n ∧ v.n ≤ 9223372036854775807) : (okV v r).2.1.length ≤ r.length ∧ rightV (okV v r).1 = true ∧ (-9223372036854775808 ≤ (okV v r).1.n ∧ (okV v r).1.n ≤ 9223372036854775807) := by
  unfold okV
  split
  · rename_i h; exact ⟨by simp, h, hv⟩
  · exact ⟨by simp, by decide, by decide⟩
theorem v0_ok : rightV v0 = true ∧ (-9223372036854775808 ≤ v0.n ∧ v0.n ≤ 9223372036854775807) := by decide
theorem takeV_ok (s : Str) : (takeV s).2.1.length ≤ s.length ∧ ((takeV s).2.2 = 0 → (takeV s).2.1.length < s.length) ∧ rightV (takeV s).1 = true ∧ (-9223372036854775808 ≤ (takeV s).1.n ∧ (takeV s).1.n ≤ 9223372036854775807) := by
  have h1 := takeN_len s
  have h2 := takeN_len (takeN s).2.1
  have h3 := takeT_len (takeN s).2.1 40
  unfold takeV
  split
  · exact ⟨by simp, fun h => absurd h (by assumption), v0_ok⟩
  have h4 := h1.2.1 (by omega)
  split
  · exact ⟨by dsimp only; omega, fun _ => h4, v0_ok⟩
  split
  · split
    · exact ⟨by simp, fun h => absurd h (by assumption), v0_ok⟩
    · have := okV_ok ⟨(takeN s).1, (takeN (takeN s).2.1).1, []⟩ (takeN (takeN s).2.1).2.1 (takeN_rng _)
      exact ⟨by omega, fun _ => by omega, this.2⟩
  split
  · split
    · exact ⟨by simp, fun h => absurd h (by assumption), v0_ok⟩
    · have := okV_ok ⟨2, 0, (takeT (takeN s).2.1 40).1⟩ (takeT (takeN s).2.1 40).2.1 ⟨by simp, by simp⟩
      exact ⟨by omega, fun _ => by omega, this.2⟩
  · exact ⟨by simp, fun h => absurd h (by decide), v0_ok⟩
theorem takeVs_bytes (r : Str) : ∀ (l out : List Val), (∀ v ∈ l, rightV v = true ∧ (-9223372036854775808 ≤ v.n ∧ v.n ≤ 9223372036854775807)) → takeVs l.length out (l.flatMap bytesV ++ r) = (out ++ l, r, 0) := by
  intro l
  induction l with
  | nil => intro out _; simp [takeVs]
  | cons v l ih =>
    intro out h
    have hv := h v (by simp)
    rw [List.length_cons, takeVs, List.flatMap_cons, List.append_assoc, takeV_bytes hv.1 hv.2]
    dsimp only
    rw [if_neg (by omega), ih _ (fun w hw => h w (by simp [hw]))]; simp
theorem takeR_row {l : List Val} {most : Int} (h : ∀ v ∈ l, rightV v = true ∧ (-9223372036854775808 ≤ v.n ∧ v.n ≤ 9223372036854775807)) (hl : l.length ≤ most) (hl2 : l.length ≤ 2 ^ 60) (r : Str) : takeR (rowB l ++ r) most = (l, r, 0) := by
  unfold takeR rowB
  rw [List.append_assoc, takeN_num ⟨by omega, by omega⟩]
  dsimp only
  rw [if_neg (by omega), if_neg (by omega), if_neg (by omega), Int.toNat_natCast, takeVs_bytes r l [] h]; simp
theorem takeVs_ok : ∀ (k : Nat) (out : List Val) (s : Str), (∀ v ∈ out, rightV v = true ∧ (-9223372036854775808 ≤ v.n ∧ v.n ≤ 9223372036854775807)) →
    (takeVs k out s).2.1.length ≤ s.length ∧ (∀ v ∈ (takeVs k out s).1, rightV v = true ∧ (-9223372036854775808 ≤ v.n ∧ v.n ≤ 9223372036854775807)) ∧ (takeVs k out s).1.length ≤ out.length + s.length ∧ ((takeVs k out s).2.2 ≠ 0 → (takeVs k out s).1 = [] ∧ (takeVs k out s).2.1 = []) ∧ (takeVs k out s).1.length ≤ out.length + k := by
  intro k
  induction k with
  | zero => intro out s h; exact ⟨by simp [takeVs], h, by simp [takeVs], fun h => absurd rfl h, by simp [takeVs]⟩
  | succ k ih =>
    intro out s h
    have hv := takeV_ok s
    rw [takeVs]
    split
    · exact ⟨by simp, by simp, by simp, fun _ => ⟨rfl, rfl⟩, by simp⟩
    · rename_i h1
      have h2 := hv.2.1 (by omega)
      have := ih (out ++ [(takeV s).1]) (takeV s).2.1 (fun w hw => by
        rcases List.mem_append.1 hw with hw | hw
        · exact h w hw
        · rw [List.mem_singleton.1 hw]; exact hv.2.2)
      rw [List.length_append, List.length_singleton] at this
      exact ⟨by omega, this.2.1, by omega, this.2.2.2.1, by omega⟩
theorem takeR_ok (s : Str) (most : Int) : (takeR s most).2.1.length ≤ s.length ∧ (∀ v ∈ (takeR s most).1, rightV v = true ∧ (-9223372036854775808 ≤ v.n ∧ v.n ≤ 9223372036854775807)) ∧ (takeR s most).1.length ≤ s.length ∧ ((takeR s most).2.2 ≠ 0 → (takeR s most).1 = [] ∧ (takeR s most).2.1 = []) ∧ (0 ≤ most → (takeR s most).1.length ≤ most) := by
  have h1 := takeN_len s
  unfold takeR
  repeat' split
  · exact ⟨by simp, by simp, by simp, fun _ => ⟨rfl, rfl⟩, by simp⟩
  · exact ⟨by simp, by simp, by simp, fun _ => ⟨rfl, rfl⟩, by simp⟩
  · exact ⟨by simp, by simp, by simp, fun _ => ⟨rfl, rfl⟩, by simp⟩
  · have := takeVs_ok (takeN s).1.toNat [] (takeN s).2.1 (by simp)
    rw [List.length_nil] at this
    exact ⟨by omega, this.2.1, by omega, this.2.2.2.1, fun _ => by omega⟩
def eqL {α β : Type} (p : α → β → Bool) : List α → List β → Bool
  | [], [] => true
  | x :: r, y :: t => p x y && eqL p r t
  | _, _ => false
theorem eqL_len {α β : Type} {p : α → β → Bool} : ∀ {l : List α} {m : List β}, l.length ≠ m.length → eqL p l m = false
  | [], [], h => absurd rfl h
  | [], _ :: _, _ => rfl
  | _ :: _, [], _ => rfl
  | x :: r, y :: t, h => by simp only [eqL]; rw [eqL_len (by simpa using h), Bool.and_false]
theorem eqL_at {α β : Type} [Inhabited α] [Inhabited β] {p : α → β → Bool} : ∀ {l : List α} {m : List β} {i : Nat}, i < l.length → p (l.getD i default) (m.getD i default) = false → i < m.length → eqL p l m = false
  | x :: r, y :: t, 0, _, h, _ => by simp only [List.getD_cons_zero] at h; simp only [eqL, h, Bool.false_and]
  | x :: r, y :: t, i + 1, h1, h, h2 => by
    simp only [List.getD_cons_succ] at h
    simp only [eqL]; rw [eqL_at (i := i) (by simpa using h1) h (by simpa using h2), Bool.and_false]
theorem eqL_non {α β : Type} [Inhabited α] [Inhabited β] {p : α → β → Bool} : ∀ {l : List α} {m : List β}, l.length = m.length → (∀ k, k < l.length → p (l.getD k default) (m.getD k default) = true) → eqL p l m = true
  | [], [], _, _ => rfl
  | x :: r, y :: t, h, hp => by
    have h0 := hp 0 (by simp)
    simp only [List.getD_cons_zero] at h0
    simp only [eqL, h0, Bool.true_and]
    exact eqL_non (by simpa using h) (fun k hk => by have := hp (k + 1) (by simpa using hk); simpa only [List.getD_cons_succ] using this)
@[go_sem] theorem last2a {α : Type} (τ : List α) (c d : α) : (τ ++ [c] ++ [d])[τ.length + 1]? = some d := by simp
@[go_sem] theorem last2b {α : Type} (τ : List α) (c d : α) : (τ ++ [c] ++ [d])[τ.length]? = some c := by simp
@[go_sem] theorem set2a {α : Type} (τ : List α) (c d e : α) : (τ ++ [c] ++ [d]).set (τ.length + 1) e = τ ++ [c] ++ [e] := by simp
theorem eqL_refl {α : Type} {p : α → α → Bool} (l : List α) (h : ∀ x ∈ l, p x x = true) : eqL p l l = true := by
  induction l with
  | nil => rfl
  | cons x l ih => simp only [eqL, h x (by simp), Bool.true_and]; exact ih (fun y hy => h y (List.mem_cons_of_mem _ hy))
def rng (n : Int) : Prop := -9223372036854775808 ≤ n ∧ n ≤ 9223372036854775807
def okVals (l : List Val) : Prop := l.length ≤ 2 ^ 30 ∧ ∀ v ∈ l, rng v.n ∧ v.s.length ≤ 2 ^ 30
def numR (s : Str) (b : Bool) : Int × Str × Bool := ((takeN s).1, (takeN s).2.1, b || (takeN s).2.2 != 0)
def textR (s : Str) (b : Bool) : Str × Str × Bool := ((takeT s 1400).1, (takeT s 1400).2.1, b || (takeT s 1400).2.2 != 0)
def ordR (o : Option Int) (s : Str) (b : Bool) : List Val × Str × Bool := match o with
  | none => ([], s, b)
  | some m => ((takeR s m).1, (takeR s m).2.1, b || (takeR s m).2.2 != 0)
theorem numR_num {n : Int} (h : rng n) (r : Str) : numR (numB n ++ r) false = (n, r, false) := by unfold numR; rw [takeN_num h]; rfl
theorem textR_text {s : Str} (h : s.length ≤ 1400) (r : Str) : textR (textB s ++ r) false = (s, r, false) := by unfold textR; rw [takeT_text (by omega) (by omega)]; rfl
theorem nameS_16 {s : Str} (h : nameS s = true) : s.length ≤ 16 := by
  simp only [nameS, Bool.and_eq_true, decide_eq_true_eq] at h
  exact h.1.2
theorem rng0 : rng 0 := ⟨by decide, by decide⟩
theorem right_ok {v : Val} (h : rightV v = true) : v.s.length ≤ 40 := by
  rcases rightV_kind h with ⟨_, h⟩ | ⟨_, h⟩ | ⟨_, _, h⟩ | ⟨_, h⟩
  · rw [h]; decide
  · rw [h]; decide
  · exact h
  · rw [h]; decide
theorem varF_len : ∀ (k c : Nat), (varF k c).length ≤ k + 1 := by
  intro k
  induction k with
  | zero => intro c; simp [varF]
  | succ k ih => intro c; rw [varF]; split
                 · simp
                 · have := ih (c / 128); simp; omega
theorem numB_len (n : Int) : (numB n).length ≤ 10 := varF_len 9 _
theorem take_succ {α : Type} [Inhabited α] {l : List α} {k : Nat} (h : k < l.length) : l.take (k + 1) = l.take k ++ [l.getD k default] := by
  rw [List.take_succ_eq_append_getElem h, List.getD_eq_getElem?_getD, List.getElem?_eq_getElem h]; rfl
theorem allF {α : Type} [Inhabited α] {p : α → Bool} {l : List α} {i : Nat} (hi : i < l.length) (h : p (l.getD i default) = false) : l.all p = false := by
  cases hq : l.all p with
  | false => rfl
  | true => rw [List.all_eq_true] at hq; rw [hq _ (getD_mem hi)] at h; cases h
theorem allN {α : Type} [Inhabited α] {p : α → Bool} {l : List α} (h : ∀ k, k < l.length → p (l.getD k default) = true) : l.all p = true := by
  rw [List.all_eq_true]
  intro x hx
  obtain ⟨i, hi, rfl⟩ := List.getElem_of_mem hx
  have := h i hi
  rwa [List.getD_eq_getElem?_getD, List.getElem?_eq_getElem hi, Option.getD_some] at this
structure Ent where
  table : Str
  ver : Int
  input : List Val
  err : Int
  rules : List Int
  rows : List (List Val)
deriving Inhabited
def ent0 : Ent := ⟨[], 0, [], 0, [], []⟩
def plainV (l : List Val) : Bool := decide (l.length ≤ 6) && l.all rightV
def lastK (l : List Int) (k : Nat) : Int := if k = 0 then -1 else l.getD (k - 1) 0
def riseK (l : List Int) (k : Nat) : Bool := decide (lastK l k < l.getD k 0 ∧ l.getD k 0 < 24)
def riseS (l : List Int) : Bool := (List.range l.length).all (riseK l)
def rightE (e : Ent) : Bool := nameS e.table && decide (1 ≤ e.ver ∧ e.ver ≤ 2147483648) && decide (0 ≤ e.err ∧ e.err ≤ 99) && riseS e.rules && decide (e.rows.length ≤ 24) && plainV e.input && e.rows.all plainV
def textE (e : Ent) : Str := textB e.table ++ numB e.ver ++ rowB e.input ++ (numB e.err ++ numB e.rules.length) ++ e.rules.flatMap numB ++ numB e.rows.length ++ e.rows.flatMap rowB
def checkE (e : Ent) : Int := if rightE e = false then 2 else if 1400 < (textE e).length then 5 else 0
def bytesE (e : Ent) : Str × Int := if checkE e ≠ 0 then ([], checkE e) else (textE e, 0)
def numsR : Nat → List Int → Str → Bool → List Int × Str × Bool
  | 0, out, s, b => (out, s, b)
  | k + 1, out, s, b => if b then (out, s, b) else numsR k (out ++ [(numR s b).1]) (numR s b).2.1 (numR s b).2.2
def rowsR : Nat → List (List Val) → Str → Bool → List (List Val) × Str × Bool
  | 0, out, s, b => (out, s, b)
  | k + 1, out, s, b => if b then (out, s, b) else rowsR k (out ++ [(ordR (some 6) s b).1]) (ordR (some 6) s b).2.1 (ordR (some 6) s b).2.2
def entNums (s : Str) (b : Bool) : List Int × Str × Bool := numsR (numR s b).1.toNat [] (numR s b).2.1 (numR s b).2.2
def entRows (s : Str) (b : Bool) : List (List Val) × Str × Bool := rowsR (numR s b).1.toNat [] (numR s b).2.1 (numR s b).2.2
def readE (s : Str) : Ent × Str × Bool :=
  let t := textR s false
  let v := numR t.2.1 t.2.2
  let i := ordR (some 6) v.2.1 v.2.2
  let e := numR i.2.1 i.2.2
  let r := entNums e.2.1 e.2.2
  let q := entRows r.2.1 r.2.2
  (⟨t.1, v.1, i.1, e.1, r.1, q.1⟩, q.2.1, q.2.2)
def parseE (s : Str) : Ent × Int := if (readE s).2.2 = true ∨ bytesE (readE s).1 ≠ (s, 0) then (ent0, 4) else ((readE s).1, 0)
theorem rise_at {l : List Int} (h : riseS l = true) {k : Nat} (hk : k < l.length) : lastK l k < l.getD k 0 ∧ l.getD k 0 < 24 := by
  have := List.all_eq_true.1 h k (List.mem_range.2 hk)
  simpa [riseK] using this
theorem rise_ge {l : List Int} (h : riseS l = true) : ∀ k, k < l.length → (k : Int) ≤ l.getD k 0 := by
  intro k
  induction k with
  | zero => intro hk; have := (rise_at h hk).1; unfold lastK at this; rw [if_pos rfl] at this; omega
  | succ k ih =>
    intro hk
    have h1 := ih (by omega)
    have h2 := (rise_at h hk).1
    unfold lastK at h2
    rw [if_neg (by omega), Nat.add_sub_cancel] at h2
    omega
theorem rise_len {l : List Int} (h : riseS l = true) : l.length ≤ 24 := by
  rcases Nat.lt_or_ge 24 l.length with hn | hn
  · have h1 := rise_ge h 24 hn
    have h2 := (rise_at h hn).2
    omega
  · exact hn
theorem rightE_all {e : Ent} (h : rightE e = true) : nameS e.table = true ∧ (1 ≤ e.ver ∧ e.ver ≤ 2147483648) ∧ (0 ≤ e.err ∧ e.err ≤ 99) ∧ riseS e.rules = true ∧ e.rows.length ≤ 24 ∧ plainV e.input = true ∧ ∀ l ∈ e.rows, plainV l = true := by
  simp only [rightE, Bool.and_eq_true, decide_eq_true_eq, List.all_eq_true] at h
  obtain ⟨⟨⟨⟨⟨⟨h1, h2⟩, h3⟩, h4⟩, h5⟩, h6⟩, h7⟩ := h
  exact ⟨h1, h2, h3, h4, h5, h6, h7⟩
def okEnt (e : Ent) : Prop := e.table.length ≤ 2 ^ 30 ∧ rng e.ver ∧ okVals e.input ∧ rng e.err ∧ (e.rules.length ≤ 2 ^ 30 ∧ ∀ n ∈ e.rules, rng n) ∧ e.rows.length ≤ 2 ^ 30 ∧ ∀ l ∈ e.rows, okVals l
theorem plainV_all {l : List Val} (h : plainV l = true) : l.length ≤ 6 ∧ ∀ v ∈ l, rightV v = true := by
  simp only [plainV, Bool.and_eq_true, decide_eq_true_eq, List.all_eq_true] at h; exact h
theorem ordR_row {l : List Val} (h : plainV l = true) (ok : okVals l) (r : Str) : ordR (some 6) (rowB l ++ r) false = (l, r, false) := by
  obtain ⟨h1, h2⟩ := plainV_all h
  unfold ordR
  dsimp only
  rw [takeR_row (fun v hv => ⟨h2 v hv, (ok.2 v hv).1⟩) (by omega) (by omega)]; rfl
theorem rowsR_rows (r : Str) : ∀ (l out : List (List Val)), (∀ x ∈ l, plainV x = true ∧ okVals x) → rowsR l.length out (l.flatMap rowB ++ r) false = (out ++ l, r, false) := by
  intro l
  induction l with
  | nil => intro out _; simp [rowsR]
  | cons c l ih =>
    intro out h
    rw [List.length_cons, rowsR, List.flatMap_cons, List.append_assoc, ordR_row (h c (by simp)).1 (h c (by simp)).2, if_neg (by simp), ih _ (fun w hw => h w (by simp [hw]))]; simp
theorem numsR_nums (r : Str) : ∀ (l out : List Int), (∀ n ∈ l, rng n) → numsR l.length out (l.flatMap numB ++ r) false = (out ++ l, r, false) := by
  intro l
  induction l with
  | nil => intro out _; simp [numsR]
  | cons c l ih =>
    intro out h
    rw [List.length_cons, numsR, List.flatMap_cons, List.append_assoc, numR_num (h c (by simp)), if_neg (by simp), ih _ (fun w hw => h w (by simp [hw]))]; simp
theorem readE_text {e : Ent} (ok : okEnt e) (h : rightE e = true) : readE (textE e) = (e, [], false) := by
  obtain ⟨h1, h2, h3, h4, h5, h6, h7⟩ := rightE_all h
  obtain ⟨o1, o2, o3, o4, o5, o6, o7⟩ := ok
  have hn := nameS_16 h1
  have hl := rise_len h4
  unfold readE textE
  simp only [List.append_assoc]
  rw [textR_text (by omega)]
  dsimp only
  rw [numR_num o2]
  dsimp only
  rw [ordR_row h6 o3]
  dsimp only
  rw [numR_num o4]
  dsimp only
  unfold entNums
  rw [numR_num ⟨by omega, by omega⟩]
  dsimp only
  rw [Int.toNat_natCast, numsR_nums _ _ _ o5.2]
  dsimp only
  unfold entRows
  rw [numR_num ⟨by omega, by omega⟩]
  dsimp only
  have := rowsR_rows [] e.rows [] (fun x hx => ⟨h7 x hx, o7 x hx⟩)
  rw [List.append_nil] at this
  rw [Int.toNat_natCast, this]; rfl
theorem checkE_zero {e : Ent} (h : checkE e = 0) : rightE e = true ∧ (textE e).length ≤ 1400 := by
  unfold checkE at h
  split at h
  · cases h
  · rename_i h1
    split at h
    · cases h
    · exact ⟨by simpa using h1, by omega⟩
theorem bytesE_zero {e : Ent} (h : (bytesE e).2 = 0) : checkE e = 0 ∧ bytesE e = (textE e, 0) := by
  unfold bytesE at *
  split at h
  · rename_i h1; exact absurd h h1
  · rename_i h1; exact ⟨by omega, by rw [if_neg h1]⟩
theorem parse_ent {e : Ent} (ok : okEnt e) (h : (bytesE e).2 = 0) : parseE (bytesE e).1 = (e, 0) := by
  obtain ⟨h1, h2⟩ := bytesE_zero h
  obtain ⟨h3, h4⟩ := checkE_zero h1
  rw [h2]
  unfold parseE
  dsimp only
  rw [readE_text ok h3, if_neg (by rw [h2]; simp)]
theorem parseE_cases (s : Str) : parseE s = (ent0, 4) ∨ (parseE s).2 = 0 ∧ bytesE (parseE s).1 = (s, 0) := by
  unfold parseE
  split
  · exact .inl rfl
  · rename_i h
    exact .inr ⟨rfl, Classical.not_not.1 fun hn => h (.inr hn)⟩
theorem numsR_ok (n : Nat) : ∀ (k : Nat) (out : List Int) (s : Str) (b : Bool), out.length + s.length + (if b then 0 else 1) ≤ n → (∀ x ∈ out, rng x) →
    (numsR k out s b).1.length + (numsR k out s b).2.1.length + (if (numsR k out s b).2.2 then 0 else 1) ≤ n ∧ ∀ x ∈ (numsR k out s b).1, rng x := by
  intro k
  induction k with
  | zero => intro out s b h1 h2; rw [numsR]; exact ⟨h1, h2⟩
  | succ k ih =>
    intro out s b h1 h2
    rw [numsR]
    cases b with
    | true => rw [if_pos rfl]; exact ⟨h1, h2⟩
    | false =>
      simp only [Bool.false_eq_true, if_false] at h1 ⊢
      have hg := takeN_rng s
      have hl := takeN_len s
      refine ih _ _ _ ?_ ?_
      · unfold numR
        rw [List.length_append, List.length_singleton]
        dsimp only
        by_cases he : (takeN s).2.2 = 0
        · have := hl.2.1 he; rw [he]; simp; omega
        · have : ((takeN s).2.2 != 0) = true := by simpa using he
          simp [this]; omega
      · intro x hx
        rcases List.mem_append.1 hx with hx | hx
        · exact h2 x hx
        · rw [List.mem_singleton.1 hx]; exact hg
theorem takeR_lt (s : Str) (m : Int) (h : (takeR s m).2.2 = 0) : (takeR s m).2.1.length < s.length := by
  have hn := takeN_len s
  unfold takeR at *
  split at h
  · rename_i h1; exact absurd h h1
  rename_i h1
  rw [if_neg h1]
  split at h
  · cases h
  rename_i h2
  rw [if_neg h2]
  split at h
  · cases h
  rename_i h3
  rw [if_neg h3]
  have := (takeVs_ok (takeN s).1.toNat [] (takeN s).2.1 (fun v hv => by cases hv)).1
  have := hn.2.1 (by omega)
  omega
theorem rowsR_ok (n : Nat) (hn : n ≤ 2 ^ 30) : ∀ (k : Nat) (out : List (List Val)) (s : Str) (b : Bool), out.length + s.length + (if b then 0 else 1) ≤ n → (∀ x ∈ out, okVals x) →
    (rowsR k out s b).1.length + (rowsR k out s b).2.1.length + (if (rowsR k out s b).2.2 then 0 else 1) ≤ n ∧ ∀ x ∈ (rowsR k out s b).1, okVals x := by
  intro k
  induction k with
  | zero => intro out s b h1 h2; rw [rowsR]; exact ⟨h1, h2⟩
  | succ k ih =>
    intro out s b h1 h2
    rw [rowsR]
    cases b with
    | true => rw [if_pos rfl]; exact ⟨h1, h2⟩
    | false =>
      simp only [Bool.false_eq_true, if_false] at h1 ⊢
      have hr := takeR_ok s 6
      have e : ordR (some 6) s false = ((takeR s 6).1, (takeR s 6).2.1, (takeR s 6).2.2 != 0) := by simp [ordR]
      rw [e]
      have hlt := takeR_lt s 6
      refine ih _ _ _ ?_ ?_
      · rw [List.length_append, List.length_singleton]
        dsimp only
        by_cases he : (takeR s 6).2.2 = 0
        · have := hlt he; rw [if_neg (by simp [he])]; omega
        · rw [if_pos (by simpa using he)]; omega
      · intro x hx
        rcases List.mem_append.1 hx with hx | hx
        · exact h2 x hx
        · rw [List.mem_singleton.1 hx]
          exact ⟨by have := hr.2.2.2.2 (by omega); dsimp only; omega, fun v hv => ⟨(hr.2.1 v hv).2, by have := right_ok (hr.2.1 v hv).1; omega⟩⟩
theorem readE_ok {s : Str} (hs : s.length ≤ 2 ^ 20) : okEnt (readE s).1 := by
  have h1 := takeT_len s 1400
  have l1 := takeN_len (takeT s 1400).2.1
  have r1 := takeN_rng (takeT s 1400).2.1
  unfold readE
  obtain ⟨t, ht⟩ : ∃ t, textR s false = t := ⟨_, rfl⟩
  have e1 : t.1.length ≤ s.length ∧ t.2.1.length ≤ s.length := by rw [← ht]; exact ⟨h1.1, h1.2.1⟩
  rw [ht]
  dsimp only
  obtain ⟨v, hv⟩ : ∃ v, numR t.2.1 t.2.2 = v := ⟨_, rfl⟩
  have e2 : rng v.1 ∧ v.2.1.length ≤ t.2.1.length := by rw [← hv]; exact ⟨takeN_rng _, (takeN_len _).1⟩
  rw [hv]
  obtain ⟨i, hi⟩ : ∃ i, ordR (some 6) v.2.1 v.2.2 = i := ⟨_, rfl⟩
  have hr := takeR_ok v.2.1 6
  have e3 : okVals i.1 ∧ i.2.1.length ≤ v.2.1.length := by
    rw [← hi]
    exact ⟨⟨by have := hr.2.2.2.2 (by omega); show (takeR v.2.1 6).1.length ≤ _; omega, fun x hx => ⟨(hr.2.1 x hx).2, by have := right_ok (hr.2.1 x hx).1; omega⟩⟩, hr.1⟩
  rw [hi]
  obtain ⟨e, he⟩ : ∃ e, numR i.2.1 i.2.2 = e := ⟨_, rfl⟩
  have e4 : rng e.1 ∧ e.2.1.length ≤ i.2.1.length := by rw [← he]; exact ⟨takeN_rng _, (takeN_len _).1⟩
  rw [he]
  unfold entNums
  obtain ⟨n, hn⟩ : ∃ n, numR e.2.1 e.2.2 = n := ⟨_, rfl⟩
  have e5 : n.2.1.length ≤ e.2.1.length := by rw [← hn]; exact (takeN_len _).1
  rw [hn]
  obtain ⟨a1, a2⟩ := numsR_ok (2 ^ 20 + 1) n.1.toNat [] n.2.1 n.2.2 (by simp; split <;> omega) (fun x hx => by cases hx)
  generalize numsR n.1.toNat [] n.2.1 n.2.2 = q at *
  unfold entRows
  obtain ⟨m, hm⟩ : ∃ n, numR q.2.1 q.2.2 = n := ⟨_, rfl⟩
  have e6 : m.2.1.length ≤ q.2.1.length := by rw [← hm]; exact (takeN_len _).1
  rw [hm]
  obtain ⟨b1, b2⟩ := rowsR_ok (2 ^ 21) (by decide) m.1.toNat [] m.2.1 m.2.2 (by simp; split <;> omega) (fun x hx => by cases hx)
  exact ⟨by dsimp only; omega, e2.1, e3.1, e4.1, ⟨by dsimp only; omega, a2⟩, by dsimp only; omega, b2⟩
theorem ok_ent0 : okEnt ent0 := ⟨by decide, rng0, ⟨by decide, fun c hc => (by cases hc)⟩, rng0, ⟨by decide, fun c hc => (by cases hc)⟩, by decide, fun c hc => (by cases hc)⟩
theorem parseE_ok {s : Str} (hs : s.length ≤ 2 ^ 20) : okEnt (parseE s).1 := by
  unfold parseE
  split
  · exact ok_ent0
  · exact readE_ok hs
def sameE (a b : Ent) : Bool := decide (a.table = b.table) && decide (a.ver = b.ver) && eqL (fun x y => x == y) a.input b.input && decide (a.err = b.err) && eqL (fun x y : Int => x == y) a.rules b.rules && eqL (eqL fun x y => x == y) a.rows b.rows
theorem sameE_refl (a : Ent) : sameE a a = true := by
  unfold sameE
  rw [eqL_refl a.input (fun x _ => by simp), eqL_refl a.rules (fun x _ => by simp), eqL_refl a.rows (fun x _ => eqL_refl x (fun y _ => by simp))]; simp
end Go.Proofs.YtmbgnaoilncbnaaGreat
