/- Part of a proof: see Root. -/
import Derived.Test.YtnfendddolhcoaaGreatDoorW23
import Derived.Shelf.Spec.SlicesInsertGrow
set_option linter.unnecessarySimpa false
set_option linter.unusedSectionVars false
set_option linter.unusedSimpArgs false
set_option linter.unusedVariables false
namespace Go.Proofs.YtnfendddolhcoaaGreatDoor
open Go.AM
set_option maxRecDepth 4000
abbrev UW (n : Int) : AV := .int .u32 n
def crcT : List Nat := [0, 274646895, 549293790, 820201905, 1098587580, 1361435347, 1640403810, 1905808397, 2197175160, 2460548119, 2722870694, 2987750089, 3280807620, 3553878443, 3811616794, 4084100981]
noncomputable def crcL : List AV := crcT.map fun n : Nat => UW (n : Int)
def crcB (c b : Nat) : Nat := Nat.xor (Nat.div (Nat.xor (Nat.div (Nat.xor c b) 16) (crcT.getD (Nat.mod (Nat.xor c b) 16) 0)) 16) (crcT.getD (Nat.mod (Nat.xor (Nat.div (Nat.xor c b) 16) (crcT.getD (Nat.mod (Nat.xor c b) 16) 0)) 16) 0)
def crcS : List UInt8 → Nat → Nat
  | [], c => c
  | b :: s, c => crcS s (crcB c b.toNat)
theorem xor_u32 {a b : Nat} (ha : a < 4294967296) (hb : b < 4294967296) : bitsO .xor .u32 (a : Int) (b : Int) = ((Nat.xor a b : Nat) : Int) ∧ Nat.xor a b < 4294967296 := by
  have h : Nat.xor a b < 2 ^ 32 := Nat.xor_lt_two_pow (n := 32) ha hb
  refine ⟨?_, h⟩
  rw [bitsO_eq]
  unfold bitsK
  have e : (BitVec.ofInt (IntKind.bits .u32) (a : Int) ^^^ BitVec.ofInt (IntKind.bits .u32) (b : Int)).toNat = Nat.xor a b := by
    rw [BitVec.toNat_xor]
    have ea : (BitVec.ofInt 32 (a : Int)).toNat = a := by rw [BitVec.toNat_ofInt]; omega
    have eb : (BitVec.ofInt 32 (b : Int)).toNat = b := by rw [BitVec.toNat_ofInt]; omega
    show (BitVec.ofInt 32 (a : Int)).toNat ^^^ (BitVec.ofInt 32 (b : Int)).toNat = _
    rw [ea, eb]; rfl
  show IntKind.wrap .u32 ((BitVec.ofInt (IntKind.bits .u32) (a : Int) ^^^ BitVec.ofInt (IntKind.bits .u32) (b : Int)).toNat : Int) = _
  rw [e]
  show ((Nat.xor a b : Nat) : Int) % 4294967296 = _
  omega
theorem and15_u32 {a : Nat} (ha : a < 4294967296) : bitsO .and .u32 (a : Int) 15 = ((Nat.mod a 16 : Nat) : Int) := by
  rw [bitsO_eq]
  unfold bitsK
  have e : (BitVec.ofInt (IntKind.bits .u32) (a : Int) &&& BitVec.ofInt (IntKind.bits .u32) 15).toNat = Nat.mod a 16 := by
    rw [BitVec.toNat_and]
    have ea : (BitVec.ofInt 32 (a : Int)).toNat = a := by rw [BitVec.toNat_ofInt]; omega
    have eb : (BitVec.ofInt 32 15).toNat = 15 := by decide
    show (BitVec.ofInt 32 (a : Int)).toNat &&& (BitVec.ofInt 32 15).toNat = _
    rw [ea, eb]
    exact Nat.and_two_pow_sub_one_eq_mod a 4
  show IntKind.wrap .u32 ((BitVec.ofInt (IntKind.bits .u32) (a : Int) &&& BitVec.ofInt (IntKind.bits .u32) 15).toNat : Int) = _
  rw [e]
  show ((Nat.mod a 16 : Nat) : Int) % 4294967296 = _
  have : Nat.mod a 16 = a % 16 := rfl
  omega
theorem crcT_lt (i : Nat) : crcT.getD i 0 < 4294967296 := by
  by_cases h : i < 16
  · have : ∀ i : Fin 16, crcT.getD i.val 0 < 4294967296 := by decide
    exact this ⟨i, h⟩
  · rw [List.getD_eq_getElem?_getD, List.getElem?_eq_none (by show 16 ≤ i; omega)]; decide
theorem crcL_get (i : Nat) (h : i < 16) : crcL.getD i .undef = UW (crcT.getD i 0) := by
  unfold crcL
  rw [List.getD_eq_getElem?_getD, List.getElem?_map, List.getElem?_eq_getElem (show i < crcT.length from h), List.getD_eq_getElem?_getD, List.getElem?_eq_getElem (show i < crcT.length from h)]; rfl
theorem crcS_step (s : List UInt8) (c : Nat) : ∀ q, q < s.length → crcS (s.take (q + 1)) c = crcB (crcS (s.take q) c) (s.getD q 0).toNat := by
  induction s generalizing c with
  | nil => intro q h; simp at h
  | cons a s ih =>
    intro q h
    cases q with
    | zero => rfl
    | succ q =>
      show crcS (s.take (q + 1)) (crcB c a.toNat) = crcB (crcS (s.take q) (crcB c a.toNat)) _
      rw [ih _ q (by simpa using h)]
      rfl
theorem crcB_lt {c b : Nat} (hc : c < 4294967296) (hb : b < 4294967296) : crcB c b < 4294967296 := by
  have h1 := (xor_u32 hc hb).2
  have h2 := (xor_u32 (a := Nat.div (Nat.xor c b) 16) (b := crcT.getD (Nat.mod (Nat.xor c b) 16) 0) (by show Nat.xor c b / 16 < _; omega) (crcT_lt _)).2
  exact (xor_u32 (by show Nat.xor _ _ / 16 < _; omega) (crcT_lt _)).2
theorem crcS_lt (s : List UInt8) : ∀ c, c < 4294967296 → crcS s c < 4294967296 := by
  induction s with
  | nil => intro c h; exact h
  | cons a s ih => intro c h; exact ih _ (crcB_lt h (by have := a.toNat_lt; omega))
theorem crcB_eq {c b c1 c2 : Nat} (h1 : c1 = Nat.xor c b) (h2 : c2 = Nat.xor (Nat.div c1 16) (crcT.getD (Nat.mod c1 16) 0)) : Nat.xor (Nat.div c2 16) (crcT.getD (Nat.mod c2 16) 0) = crcB c b := by subst h1 h2; rfl
set_option maxHeartbeats 1000000 in
theorem crc_on {S : Store} {l : Nat} (hS : S[l]? = some (.cells crcL)) (s : List UInt8) (c : Nat) (hc : c < 4294967296) (hs : s.length ≤ 1000000) :
    CallA Tryz.prog n_crc_on [.ref l 0, UW c, .str s] S (fun o S' => o = .ret (UW (crcS s c)) ∧ S' = S) := by
  have hcl : crcL.length = 16 := rfl
  refine of_crc_on (by simp) ?_
  unfold b_crc_on WpR
  intro Q hQr hQn hQp
  repeat' first | refine go_ ?_ | refine br_ (fun hw => ?_) (fun hw => ?_) <;> try omega | fail
  with_reducible refine loop_i [1, 7, 10, 11, 12, 13, 14, 15, 16, 17, 18, 19, 20, 21, 22, 23, 24, 25, 26, 27, 28, 29, 30, 31, 32, 33, 34, 35, 36, 37] (fun q : Nat => [(1, UW (crcS (s.take q) c)), (10, I q)]) (fun _ => S) (fun q => q ≤ s.length) (fun q => s.length - q) (0) ?_ ?_ ?_ ?_
  · simp
  · rfl
  · exact at_
  rintro q r hq
  try dsimp only at hq
  by_cases h : q < s.length
  · have hlt := crcS_lt (s.take q) c hc
    have hst := crcS_step s c q h
    obtain ⟨x, hx⟩ : ∃ x, crcS (s.take q) c = x := ⟨_, rfl⟩
    obtain ⟨b, hb⟩ : ∃ b, (s.getD q 0).toNat = b := ⟨_, rfl⟩
    rw [hx] at hlt hst ⊢
    rw [hb] at hst
    have hbl : b < 256 := by rw [← hb]; exact (s.getD q 0).toNat_lt
    obtain ⟨e1, l1⟩ := xor_u32 (a := x) (b := b) hlt (by omega)
    obtain ⟨c1, hc1⟩ : ∃ c1, c1 = Nat.xor x b := ⟨_, rfl⟩
    rw [← hc1] at e1 l1
    have m1 : Nat.mod c1 16 < 16 := by show c1 % 16 < 16; omega
    have d1 : Nat.div c1 16 < 4294967296 := by show c1 / 16 < _; omega
    obtain ⟨e2, l2⟩ := xor_u32 (a := Nat.div c1 16) (b := crcT.getD (Nat.mod c1 16) 0) d1 (crcT_lt _)
    obtain ⟨c2, hc2⟩ : ∃ c2, c2 = Nat.xor (Nat.div c1 16) (crcT.getD (Nat.mod c1 16) 0) := ⟨_, rfl⟩
    rw [← hc2] at e2 l2
    have m2 : Nat.mod c2 16 < 16 := by show c2 % 16 < 16; omega
    have d2 : Nat.div c2 16 < 4294967296 := by show c2 / 16 < _; omega
    obtain ⟨e3, l3⟩ := xor_u32 (a := Nat.div c2 16) (b := crcT.getD (Nat.mod c2 16) 0) d2 (crcT_lt _)
    have a1 := and15_u32 l1
    have a2 := and15_u32 l2
    have g1 := crcL_get _ m1
    have g2 := crcL_get _ m2
    have f1 : (c1 : Int).fdiv (2 ^ (Int.toNat 4).min 32) = ((Nat.div c1 16 : Nat) : Int) := by
      rw [show (2 : Int) ^ (Int.toNat 4).min 32 = 16 from rfl, Int.fdiv_eq_ediv_of_nonneg _ (by decide)]; show (c1 : Int) / 16 = ((c1 / 16 : Nat) : Int); omega
    have f2 : (c2 : Int).fdiv (2 ^ (Int.toNat 4).min 32) = ((Nat.div c2 16 : Nat) : Int) := by
      rw [show (2 : Int) ^ (Int.toNat 4).min 32 = 16 from rfl, Int.fdiv_eq_ediv_of_nonneg _ (by decide)]; show (c2 : Int) / 16 = ((c2 / 16 : Nat) : Int); omega
    have w1 : wrapK .u32 (b : Int) = b := by show (b : Int) % 4294967296 = b; omega
    have hE := crcB_eq hc1 hc2
    rw [← hst] at hE
    rw [hE] at e3
    generalize Nat.mod c1 16 = n1 at *
    generalize Nat.mod c2 16 = n2 at *
    generalize Nat.div c1 16 = q1 at *
    generalize Nat.div c2 16 = q2 at *
    clear hE hst hx
    repeat' first | simp (disch := omega) only [go_sem, hQr, hQn, hQp, wrapK_i64, wrapK_u8, wrapK_u64, Nat.reduceAdd, Nat.reduceBEq, ↓reduceIte, hS, hb, w1, e1, e2, e3, a1, a2, g1, g2, f1, f2, hcl, Int.toNat_natCast, Nat.mul_one, Nat.zero_add] | refine go_ ?_ | refine br_ (fun hw => ?_) (fun hw => ?_) <;> try omega | fail
    refine ⟨q + 1, ?_, ?_, ?_, ou_, ?_⟩
    · dsimp only; omega
    · dsimp only; omega
    · rfl
    · exact at_
  · obtain rfl : q = s.length := by omega
    repeat' first | refine go_ ?_ | refine br_ (fun hw => ?_) (fun hw => ?_) <;> try omega | fail
    refine ⟨?_, trivial⟩
    rw [List.take_of_length_le (Nat.le_refl _)]
    rfl
def zerB : List UInt8 → Bool
  | [] => true
  | b :: s => Nat.beq b.toNat 0 && zerB s
theorem zerB_false : ∀ (s : List UInt8) (q : Nat), q < s.length → (s.getD q 0).toNat ≠ 0 → zerB s = false
  | b :: s, 0, _, h => by
    have : Nat.beq b.toNat 0 = false := by rw [Bool.eq_false_iff]; intro e; exact h (Nat.eq_of_beq_eq_true e)
    show (Nat.beq b.toNat 0 && zerB s) = false
    rw [this]; rfl
  | b :: s, q + 1, hq, h => by
    show (Nat.beq b.toNat 0 && zerB s) = false
    rw [zerB_false s q (by simpa using hq) h, Bool.and_false]
theorem zerB_true : ∀ (s : List UInt8), (∀ q, q < s.length → (s.getD q 0).toNat = 0) → zerB s = true
  | [], _ => rfl
  | b :: s, h => by
    have h0 : b.toNat = 0 := h 0 (by simp)
    show (Nat.beq b.toNat 0 && zerB s) = true
    rw [h0, zerB_true s (fun q hq => h (q + 1) (by simpa using hq))]; rfl
theorem seal_blank (s : List UInt8) (hs : s.length ≤ 1000000) : CallF Tryz.prog n_seal_blank [.str s] (.bool (zerB s)) := by
  have zf := zerB_false s
  have zt := zerB_true s
  generalize zerB s = E at *
  refine CallF.of_nil (of_seal_blank (by simp) ?_) rfl
  unfold b_seal_blank WpR
  intro Q hQr hQn hQp
  repeat' first | refine go_ ?_ | refine br_ (fun hw => ?_) (fun hw => ?_) <;> try omega | fail
  with_reducible refine loop_i [2, 3, 6, 7, 8, 9, 10, 11, 12, 13] (fun q : Nat => [(6, I q)]) (fun _ => []) (fun q => q ≤ s.length ∧ ∀ k, k < q → (s.getD k 0).toNat = 0) (fun q => s.length - q) (0) ?_ ?_ ?_ ?_
  · simp
  · rfl
  · exact at_
  rintro q r ⟨hq, hz⟩
  by_cases h : q < s.length
  · have hf := zf q h
    obtain ⟨b, hb⟩ : ∃ b, (s.getD q 0).toNat = b := ⟨_, rfl⟩
    rw [hb] at hf
    repeat' first | simp (disch := omega) only [go_sem, hQr, hQn, hQp, wrapK_i64, wrapK_u8, wrapK_u64, Nat.reduceAdd, Nat.reduceBEq, ↓reduceIte, hb] | refine go_ ?_ | refine br_ (fun hw => ?_) (fun hw => ?_) <;> try omega | fail
    all_goals first
      | exact ab_
      | (exact leafE (by rw [hf (by simp_all)]) rfl)
      | (refine ⟨q + 1, ⟨by omega, fun k hk => ?_⟩, ?_, ?_, ou_, ?_⟩
         · rcases Nat.lt_or_ge k q with e | e
           · exact hz k e
           · obtain rfl : k = q := by omega
             rw [hb]; simp_all
         · dsimp only; omega
         · rfl
         · simp (disch := omega) only [at_nil, at_cons, and_true, go_sem, hQr, hQn, hQp, wrapK_i64, wrapK_u8, wrapK_u64, Nat.reduceAdd, Nat.reduceBEq, ↓reduceIte, Int.natCast_add, Int.cast_ofNat_Int] <;> (try trivial) <;> (try omega) <;> (try (repeat (first | trivial | (refine And.intro ?_ ?_) | (congr 1; omega)))))
  · obtain rfl : q = s.length := by omega
    obtain rfl := zt hz
    repeat' first | refine go_ ?_ | refine br_ (fun hw => ?_) (fun hw => ?_) <;> try omega | fail
    all_goals first | exact ab_ | exact leafE rfl rfl
theorem or_u32 {a b : Nat} (ha : a < 4294967296) (hb : b < 4294967296) : bitsO .or .u32 (a : Int) (b : Int) = ((Nat.lor a b : Nat) : Int) := by
  have h : Nat.lor a b < 2 ^ 32 := Nat.or_lt_two_pow (n := 32) ha hb
  rw [bitsO_eq]
  unfold bitsK
  have e : (BitVec.ofInt (IntKind.bits .u32) (a : Int) ||| BitVec.ofInt (IntKind.bits .u32) (b : Int)).toNat = Nat.lor a b := by
    rw [BitVec.toNat_or]
    have ea : (BitVec.ofInt 32 (a : Int)).toNat = a := by rw [BitVec.toNat_ofInt]; omega
    have eb : (BitVec.ofInt 32 (b : Int)).toNat = b := by rw [BitVec.toNat_ofInt]; omega
    show (BitVec.ofInt 32 (a : Int)).toNat ||| (BitVec.ofInt 32 (b : Int)).toNat = _
    rw [ea, eb]; rfl
  show IntKind.wrap .u32 ((BitVec.ofInt (IntKind.bits .u32) (a : Int) ||| BitVec.ofInt (IntKind.bits .u32) (b : Int)).toNat : Int) = _
  rw [e]
  show ((Nat.lor a b : Nat) : Int) % 4294967296 = _
  omega
theorem and31_u64 {a : Nat} (ha : a < 18446744073709551616) : bitsO .and .u64 (a : Int) 31 = ((Nat.mod a 32 : Nat) : Int) := by
  rw [bitsO_eq]
  unfold bitsK
  have e : (BitVec.ofInt (IntKind.bits .u64) (a : Int) &&& BitVec.ofInt (IntKind.bits .u64) 31).toNat = Nat.mod a 32 := by
    rw [BitVec.toNat_and]
    have ea : (BitVec.ofInt 64 (a : Int)).toNat = a := by rw [BitVec.toNat_ofInt]; omega
    have eb : (BitVec.ofInt 64 31).toNat = 31 := by decide
    show (BitVec.ofInt 64 (a : Int)).toNat &&& (BitVec.ofInt 64 31).toNat = _
    rw [ea, eb]
    exact Nat.and_two_pow_sub_one_eq_mod a 5
  show IntKind.wrap .u64 ((BitVec.ofInt (IntKind.bits .u64) (a : Int) &&& BitVec.ofInt (IntKind.bits .u64) 31).toNat : Int) = _
  rw [e]
  show ((Nat.mod a 32 : Nat) : Int) % 18446744073709551616 = _
  have : Nat.mod a 32 = a % 32 := rfl
  omega
def rotN (x n : Nat) : Nat := Nat.lor (Nat.mod (Nat.mul x (Nat.pow 2 (Nat.sub 32 n))) 4294967296) (Nat.div x (Nat.pow 2 n))
theorem bits_RotateLeft32 (x n : Nat) (hx : x < 4294967296) (h1 : 1 ≤ n) (h2 : n ≤ 31) : CallF Tryz.prog n_math_bits_RotateLeft32 [UW x, I (-(n : Int))] (UW (rotN x n)) := by
  have e1 : wrapK .u64 (-(n : Int)) = ((18446744073709551616 - n : Nat) : Int) := by show (-(n : Int)) % 18446744073709551616 = _; omega
  have e2 := and31_u64 (a := 18446744073709551616 - n) (by omega)
  rw [show Nat.mod (18446744073709551616 - n) 32 = 32 - n by show (18446744073709551616 - n) % 32 = _; omega] at e2
  have e3 : wrapK .u64 (32 - ((32 - n : Nat) : Int)) = (n : Int) := by show (32 - ((32 - n : Nat) : Int)) % 18446744073709551616 = _; omega
  have e4 : wrapK .u32 ((x : Int) * 2 ^ ((32 - n).min 32)) = ((Nat.mod (Nat.mul x (Nat.pow 2 (32 - n))) 4294967296 : Nat) : Int) := by
    rw [show Nat.min (32 - n) 32 = 32 - n from Nat.min_eq_left (by omega)]
    show ((x : Int) * 2 ^ (32 - n)) % 4294967296 = ((x * 2 ^ (32 - n) % 4294967296 : Nat) : Int)
    rw [Int.natCast_emod, Int.natCast_mul, Int.natCast_pow]
    rfl
  have e5 : (x : Int).fdiv (2 ^ (n.min 32)) = ((Nat.div x (Nat.pow 2 n) : Nat) : Int) := by
    rw [show Nat.min n 32 = n from Nat.min_eq_left (by omega), Int.fdiv_eq_ediv_of_nonneg _ (by exact Int.le_of_lt (Int.pow_pos (by decide)))]
    show (x : Int) / 2 ^ n = ((x / 2 ^ n : Nat) : Int)
    rw [Int.natCast_ediv, Int.natCast_pow]
    rfl
  have e6 := or_u32 (a := Nat.mod (Nat.mul x (Nat.pow 2 (32 - n))) 4294967296) (b := Nat.div x (Nat.pow 2 n)) (Nat.mod_lt _ (by decide)) (Nat.lt_of_le_of_lt (Nat.div_le_self _ _) hx)
  have hE : rotN x n = Nat.lor (Nat.mod (Nat.mul x (Nat.pow 2 (32 - n))) 4294967296) (Nat.div x (Nat.pow 2 n)) := rfl
  rw [← hE] at e6
  generalize rotN x n = E at *
  generalize Nat.mod (Nat.mul x (Nat.pow 2 (32 - n))) 4294967296 = q1 at *
  generalize Nat.div x (Nat.pow 2 n) = q2 at *
  refine CallF.of_nil (of_math_bits_RotateLeft32 (by simp) ?_) rfl
  unfold b_math_bits_RotateLeft32 WpR
  intro Q hQr hQn hQp
  repeat' first | simp (disch := omega) only [go_sem, hQr, hQn, hQp, wrapK_i64, wrapK_u8, wrapK_u64, Nat.reduceAdd, Nat.reduceBEq, ↓reduceIte, e1, e2, e3, e4, e5, e6] | refine go_ ?_ | refine br_ (fun hw => ?_) (fun hw => ?_) <;> try omega | fail
  all_goals first | exact leafE rfl rfl | trace_state
theorem sha_rotr (x n : Nat) (hx : x < 4294967296) (h1 : 1 ≤ n) (h2 : n ≤ 31) : CallF Tryz.prog n_sha_rotr [UW x, I n] (UW (rotN x n)) := by
  have h1 := bits_RotateLeft32 x n hx h1 h2
  have e : wrapK .i64 (0 - (n : Int)) = -(n : Int) := by show IntKind.wrap .i64 (0 - (n : Int)) = _; rw [IntKind.wrap_i64]; omega
  have e' : wrapK .i64 (-(n : Int)) = -(n : Int) := by show IntKind.wrap .i64 (-(n : Int)) = _; rw [IntKind.wrap_i64]; omega
  refine CallF.of_nil (of_sha_rotr (by simp) ?_) rfl
  unfold b_sha_rotr WpR
  intro Q hQr hQn hQp
  repeat' first | simp (disch := omega) only [go_sem, hQr, hQn, hQp, wrapK_i64, wrapK_u8, wrapK_u64, Nat.reduceAdd, Nat.reduceBEq, ↓reduceIte, e, e'] | refine go_ ?_ | refine cf_ h1 ?_ | refine br_ (fun hw => ?_) (fun hw => ?_) <;> try omega | fail
  all_goals first | exact leafE rfl rfl | trace_state
end Go.Proofs.YtnfendddolhcoaaGreatDoor
namespace Go.Proofs
open Go.Shelf Go.RowKit Go.Lib
theorem run_copy_cellsK {P : Program} (w : World) (dT sT ty elem : TypeId) (k n b o dLen dCap : Nat) (a : Addr) (sLen sCap : Nat) (cs : List Value)
    (hu : P.underlying dT = some (.slice elem)) (hs : (P.info? elem).map (·.size) = some k) (hn : n = Nat.min sLen dLen) (hlen : cs.length = n * k)
    (hsrc : ∀ j v, cs[j]? = some v → w.cell? (a.add j) = some v) (hc : ∀ j, j < cs.length → (w.cell? ⟨b, o + j, none⟩).isSome = true) (hf : ∀ j, j < cs.length → w.frozen? ⟨b, o + j, none⟩ = false) (h1 : ∀ v ∈ cs, v.oneCell' = true) :
    (Builtin.copy_ #[dT, sT] ty #[.slice (some ⟨b, o, none⟩) dLen dCap, .slice (some a) sLen sCap]).run P w = .ok (goInt n) (w.setCells b o cs) := by
  have hl := run_loadCells_list (P := P) w a cs hsrc
  have hst := run_storeCells_cells (P := P) b o cs 0 w (by simpa using hc) (by simpa using hf) h1
  cases hq : P.info? elem with
  | none => simp [hq] at hs
  | some i =>
    have hi : i.size = k := by simpa [hq] using hs
    simp [Builtin.copy_, run_underlying hu, Builtin.lenOf, Builtin.firstCells, sizeOf, typeInfo, hq, hi, ← hn, ← hlen, hl, hst]
theorem run_overlaps_plain {P : Program} (w : World) (tS tR e : TypeId) (ht : P.underlying tS = some (.slice e)) (size : Nat) (hz : ∀ w, (Go.sizeOf e).run P w = .ok size w)
    (a b : Addr) (la ca lb cb : Nat) (hne : a.block ≠ b.block) (tA tB : TypeId) (kA kB : Nat)
    (hsa : w.shape? a.block = some (tA, kA)) (hsb : w.shape? b.block = some (tB, kB)) (hkA : kA ≠ 0)
    (hfb : w.frozen? b = false) (hfe : w.frozen? { block := b.block, off := kB } = false) :
    (Extern.SlicesOverlaps.overlaps #[tS, tS] #[tR] #[.slice (some a) la ca, .slice (some b) lb cb]).run P w = .ok (.bool false) w := by
  have hnb : (a.block != b.block) = true := by simpa using hne
  have hnb' : (a.block == b.block) = false := by simpa using hne
  change Sem.run P (α := Value) (do
    let some t := (#[tS, tS] : Array TypeId)[0]? | stuck "slices.overlaps: no parameter types"
    let .slice elem ← underlying t | stuck "slices.overlaps: slice type expected"
    let size ← sizeOf elem
    match (some a : Option Addr), (some b : Option Addr) with
    | some a, some b =>
      if la = 0 ∨ lb = 0 ∨ size = 0 then pure (Value.bool false)
      else if a.block != b.block && (← frozen a) && (← frozen b) then unsupported .addressObserved
      else do
        if a.block != b.block then do
          noView a; noView b
          if ← mayBeOne a b then return Value.bool ((← choose (.extern "sameAddr.stringBytes" 2)) == 1)
        pure (Value.bool (a.block == b.block && a.off < b.off + lb * size && b.off < a.off + la * size))
    | _, _ => pure (Value.bool false)) w = _
  by_cases h0 : la = 0 ∨ lb = 0 ∨ size = 0
  · simp [run_underlying ht, hz, h0]
  · cases kA with
    | zero => exact absurd rfl hkA
    | succ kA =>
      cases hfa : w.frozen? a <;> cases hfa2 : w.frozen? { block := a.block, off := kA + 1 } <;>
        simp [run_underlying ht, hz, h0, hnb, hnb', frozen, noView, viewAt, mayBeOne, stringish, shape, Sem.run, hsa, hsb, hfb, hfe, hfa, hfa2]
variable {P : Program} {ρ : Ren}
structure LayIns (P : Program) (ρ : Ren) (nm : String) (fo : Func) (zv : Value) (B : Nat) : Prop where
  mixed : P.follows .mixedOrders = true
  f22 : P.funcs[ρ.f 22]? = some { Body2.n22 ρ with name := nm }
  f29 : P.funcs[ρ.f 29]? = some fo
  n29 : (fo.name == "runtime.NumGoroutine") = false
  b29 : fo.body.isNone = true
  o29 : Extern.findNext fo = none
  e29 : Extern.find fo = some (Extern.SlicesOverlaps.overlaps #[(ρ.t 24), (ρ.t 24)] #[(ρ.t 4)])
  t0 : P.underlying (ρ.t 0) = some (TypeDesc.tuple #[])
  a0 : ∀ w, (isAgg (ρ.t 0)).run P w = .ok false w
  z0 : ∀ w, (Go.sizeOf (ρ.t 0)).run P w = .ok 1 w
  v0 : ∀ w, (zeroValue (ρ.t 0)).run P w = .ok (Value.tuple #[]) w
  t3 : P.underlying (ρ.t 3) = some (TypeDesc.int IntKind.i64)
  a3 : ∀ w, (isAgg (ρ.t 3)).run P w = .ok false w
  z3 : ∀ w, (Go.sizeOf (ρ.t 3)).run P w = .ok 1 w
  v3 : ∀ w, (zeroValue (ρ.t 3)).run P w = .ok (Value.int IntKind.i64 0) w
  t4 : P.underlying (ρ.t 4) = some (TypeDesc.bool)
  a4 : ∀ w, (isAgg (ρ.t 4)).run P w = .ok false w
  z4 : ∀ w, (Go.sizeOf (ρ.t 4)).run P w = .ok 1 w
  v4 : ∀ w, (zeroValue (ρ.t 4)).run P w = .ok (Value.bool false) w
  z9 : ∀ w, (Go.sizeOf (ρ.t 9)).run P w = .ok 2 w
  t24 : P.underlying (ρ.t 24) = some (TypeDesc.slice (ρ.t 9))
  a24 : ∀ w, (isAgg (ρ.t 24)).run P w = .ok false w
  z24 : ∀ w, (Go.sizeOf (ρ.t 24)).run P w = .ok 1 w
  v24 : ∀ w, (zeroValue (ρ.t 24)).run P w = .ok (Value.slice none 0 0) w
  i9 : (P.info? (ρ.t 9)).map (fun i => (i.zero, i.size, i.bytes)) = some (some zv, 2, B)
  zc : zv.cells.size = 2
theorem info_parts2 {e : TypeId} {z : Value} {s b : Nat} (h : (P.info? e).map (fun i => (i.zero, i.size, i.bytes)) = some (some z, s, b)) : ∃ i, P.info? e = some i ∧ i.zero = some z ∧ i.size = s ∧ i.bytes = b := by
  obtain ⟨i, hi, hzz⟩ := Option.map_eq_some_iff.1 h
  simp only [Prod.mk.injEq] at hzz
  exact ⟨i, hi, hzz.1, hzz.2.1, hzz.2.2⟩
set_option maxHeartbeats 4000000 in
set_option maxRecDepth 100000 in
theorem ins_shift {nm : String} {fo : Func} {zv : Value} {B : Nat} (L : LayIns P ρ nm fo zv B) (b off n c i vb voff vc : Nat) (cs vs : List Value) (w : World) (hi : i < n) (hroom : n + 1 ≤ c) (hbig : n + 1 ≤ 1000000000) (hvb : vb ≠ b)
    (hcl : cs.length = n * 2) (hvl : vs.length = 2)
    (hcs : ∀ j v, cs[j]? = some v → w.cell? ⟨b, off + j, none⟩ = some v) (hsp : ∀ j, j < (n + 1) * 2 → (w.cell? ⟨b, off + j, none⟩).isSome = true) (hfz : ∀ j, w.frozen? ⟨b, j, none⟩ = false)
    (hvs : ∀ j v, vs[j]? = some v → w.cell? ⟨vb, voff + j, none⟩ = some v) (h1c : ∀ v ∈ cs, v.oneCell' = true) (h1v : ∀ v ∈ vs, v.oneCell' = true)
    (tA tB : TypeId) (kA kB : Nat) (hsa : w.shape? vb = some (tA, kA)) (hsb : w.shape? b = some (tB, kB)) (hkA : kA ≠ 0) :
    Calls P (ρ.f 22) #[.slice (some ⟨b, off, none⟩) n c, .int .i64 i, .slice (some ⟨vb, voff, none⟩) 1 vc] w fun e w' =>
      e = .returned (.slice (some ⟨b, off, none⟩) (n + 1) c) ∧ w' = (w.drew.setCells b (off + (i + 1) * 2) (cs.drop (i * 2))).setCells b (off + i * 2) vs := by
  have t0 := L.t0; have a0 := L.a0; have z0 := L.z0; have v0 := L.v0; have t3 := L.t3; have a3 := L.a3; have z3 := L.z3; have v3 := L.v3; have t4 := L.t4; have a4 := L.a4; have z4 := L.z4; have v4 := L.v4; have z9 := L.z9; have t24 := L.t24; have a24 := L.a24; have z24 := L.z24; have v24 := L.v24
  have u0 := run_underlying L.t0; have u3 := run_underlying L.t3; have u4 := run_underlying L.t4; have u24 := run_underlying L.t24
  have hz2 : ¬ ((i : Int) = (n : Int)) := by omega
  have hsz : (P.info? (ρ.t 9)).map (·.size) = some 2 := by
    obtain ⟨i0, hi0, h0, h1, h2⟩ := info_parts2 L.i9
    rw [hi0]; simp [h1]
  have hov : ∀ lb cb, (callFunc (ρ.f 29) #[.slice (some ⟨vb, voff, none⟩) 1 vc, .slice (some ⟨b, off + (i + 1) * 2, none⟩) lb cb]).run P w = .ok (.value (.bool false)) w := fun lb cb => by
    rw [run_callFunc_extern L.f29 L.n29 L.b29 L.o29 L.e29,
      run_overlaps_plain w (ρ.t 24) (ρ.t 4) (ρ.t 9) L.t24 2 L.z9 ⟨vb, voff, none⟩ ⟨b, off + (i + 1) * 2, none⟩ 1 vc lb cb hvb tA tB kA kB hsa hsb hkA (hfz _) (hfz _)]
    rfl
  have hdl : (cs.drop (i * 2)).length = (n - i) * 2 := by rw [List.length_drop, hcl]; omega
  have mixed := L.mixed
  have hw1 : IntKind.i64.wrap ((i : Int) + 1) = (i : Int) + 1 := by rw [IntKind.wrap_i64]; omega
  have hw2 : IntKind.i64.wrap ((n : Int) + 1) = (n : Int) + 1 := by rw [IntKind.wrap_i64]; omega
  have hb1 : (0 : Int) ≤ (i : Int) + 1 := by omega
  have hin : i ≤ n := by omega
  have htn : ((i : Int) + 1).toNat = i + 1 := by omega
  have hb2 : ¬ (c = i + 1) := by omega
  have hb3 : (i : Int) ≤ (n : Int) + 1 := by omega
  have hb4 : ¬ (c = i) := by omega
  have hcp1 : ∀ ty dc sc, (Builtin.copy_ #[(ρ.t 24), (ρ.t 24)] ty #[.slice (some ⟨b, off + (i + 1) * 2, none⟩) (n - i) dc, .slice (some ⟨b, off + i * 2, none⟩) (n + 1 - i) sc]).run P w.drew = .ok (goInt (n - i : Nat)) (w.drew.setCells b (off + (i + 1) * 2) (cs.drop (i * 2))) := fun ty dc sc =>
    run_copy_cellsK w.drew _ _ ty (ρ.t 9) 2 (n - i) b (off + (i + 1) * 2) (n - i) dc ⟨b, off + i * 2, none⟩ (n + 1 - i) sc (cs.drop (i * 2)) L.t24 hsz (by simp only [Nat.min_def]; split <;> omega) hdl
      (fun j v hj => by rw [Addr.add_lit, Nat.add_assoc]; exact hcs (i * 2 + j) v (by rwa [List.getElem?_drop] at hj))
      (fun j hj => by rw [Nat.add_assoc]; exact hsp _ (by omega)) (fun j hj => hfz _) (fun v hv => h1c v (List.mem_of_mem_drop hv))
  obtain ⟨W1, hW1⟩ : ∃ W1, W1 = w.drew.setCells b (off + (i + 1) * 2) (cs.drop (i * 2)) := ⟨_, rfl⟩
  have hsp1 : ∀ k, k < (n + 1) * 2 → (W1.cell? ⟨b, off + k, none⟩).isSome = true := fun k hk => by
    rw [hW1]
    exact isSome_setCells b _ _ _ (fun j hj => by rw [Nat.add_assoc]; exact hsp _ (by omega)) _ (hsp k hk)
  have hcp2 : ∀ (W : World), (∀ x, W.cell? x = W1.cell? x) → (∀ x, W.frozen? x = W1.frozen? x) → ∀ ty dc, (Builtin.copy_ #[(ρ.t 24), (ρ.t 24)] ty #[.slice (some ⟨b, off + i * 2, none⟩) (n + 1 - i) dc, .slice (some ⟨vb, voff, none⟩) 1 vc]).run P W = .ok (goInt (1 : Nat)) (W.setCells b (off + i * 2) vs) := fun W hWc hWf ty dc =>
    run_copy_cellsK W _ _ ty (ρ.t 9) 2 1 b (off + i * 2) (n + 1 - i) dc ⟨vb, voff, none⟩ 1 vc vs L.t24 hsz (by simp only [Nat.min_def]; split <;> omega) hvl
      (fun j v hj => by
        rw [Addr.add_lit, hWc, hW1, World.cell?_setCells_out b _ _ _ _ (fun h _ => absurd h hvb)]
        exact hvs j v hj)
      (fun j hj => by rw [hWc, Nat.add_assoc]; exact hsp1 _ (by omega)) (fun j hj => by rw [hWf, hW1, World.frozen?_setCells]; exact hfz _) h1v
  rw [← hW1] at hcp1
  go_enter L.f22, Body2.n22_ntmps ρ
  go_wp2_with (simp only [hov])
  go_region_law_o (refine step_copy_runI rfl _ _ (ρ.t 24) (ρ.t 24) rfl _ _ (by simp [Act.eval, Act.put]) (by simp [Act.eval, Act.put]) (hcp1 _ _ _) ?_)
  go_wp2_with (at_builtin; refine wpList_copy_runI _ rfl _ _ (ρ.t 24) (ρ.t 24) rfl _ _ rfl rfl (hcp2 _ (fun _ => rfl) (fun _ => rfl) _ _) ?_)
  go_ret
  first | exact ⟨rfl, rfl⟩ | exact ⟨rfl, by rw [hW1]⟩
set_option maxHeartbeats 4000000 in
set_option maxRecDepth 100000 in
theorem ins_end_room {nm : String} {fo : Func} {zv : Value} {B : Nat} (L : LayIns P ρ nm fo zv B) (b off n c vb voff vc : Nat) (vs : List Value) (w : World) (hroom : n + 1 ≤ c) (hbig : n + 1 ≤ 1000000000)
    (hvl : vs.length = 2) (hsp : ∀ j, j < 2 → (w.cell? ⟨b, off + n * 2 + j, none⟩).isSome = true) (hfz : ∀ j, w.frozen? ⟨b, j, none⟩ = false)
    (hvs : ∀ j v, vs[j]? = some v → w.cell? ⟨vb, voff + j, none⟩ = some v) (h1v : ∀ v ∈ vs, v.oneCell' = true) :
    Calls P (ρ.f 22) #[.slice (some ⟨b, off, none⟩) n c, .int .i64 n, .slice (some ⟨vb, voff, none⟩) 1 vc] w fun e w' =>
      e = .returned (.slice (some ⟨b, off, none⟩) (n + 1) c) ∧ w' = w.setCells b (off + n * 2) vs := by
  have t0 := L.t0; have a0 := L.a0; have z0 := L.z0; have v0 := L.v0; have t3 := L.t3; have a3 := L.a3; have z3 := L.z3; have v3 := L.v3; have t4 := L.t4; have a4 := L.a4; have z4 := L.z4; have v4 := L.v4; have z9 := L.z9; have t24 := L.t24; have a24 := L.a24; have z24 := L.z24; have v24 := L.v24
  have u0 := run_underlying L.t0; have u3 := run_underlying L.t3; have u4 := run_underlying L.t4; have u24 := run_underlying L.t24
  have mixed := L.mixed
  obtain ⟨i0, hi0, hz0, hzs, hzb⟩ := info_parts2 L.i9
  have hsrc : Src P i0.size (ρ.t 24) (.slice (some ⟨vb, voff, none⟩) 1 vc) 1 vs w := by
    rw [hzs]
    exact Src.ofSlice w L.t24 ⟨vb, voff, none⟩ 1 vc vs (by omega) (fun j u hj => by rw [Addr.add_lit]; exact hvs j u hj) h1v
  have hrun : ∀ ty, (Builtin.append_ #[(ρ.t 24), (ρ.t 24)] ty #[.slice (some ⟨b, off, none⟩) n c, .slice (some ⟨vb, voff, none⟩) 1 vc]).run P w = .ok (.slice (some ⟨b, off, none⟩) (n + 1) c) (w.setCells b (off + n * 2) vs) := fun ty => by
    have h := run_append_room_src w (ρ.t 24) (ρ.t 24) ty (ρ.t 9) i0 L.t24 hi0 b off n c _ 1 vs hsrc hroom (by rw [hzs, hvl]; exact hsp) (fun j _ => hfz _)
    rw [hzs] at h
    exact h
  go_enter L.f22, Body2.n22_ntmps ρ
  go_wp2_with (at_builtin; refine Lib.wpList_append_run _ rfl _ _ _ _ rfl _ _ rfl rfl _ _ (hrun _) ?_)
  go_ret
  exact ⟨rfl, rfl⟩
set_option maxHeartbeats 4000000 in
set_option maxRecDepth 100000 in
theorem ins_end_grow {nm : String} {fo : Func} {zv : Value} {B : Nat} (L : LayIns P ρ nm fo zv B) {Z : Array Value} (hZ : zv.cells = Z) (hB : B ≤ 72) (base : Option Addr) (n c vb voff vc : Nat) (cs vs : List Value) (w : World) (hnc : n ≤ c) (hroom : c < n + 1) (hbig : n + 1 ≤ 1000000000)
    (hcl : cs.length = n * 2) (hvl : vs.length = 2) (hnil : base = none → n = 0)
    (hcs : ∀ a, base = some a → ∀ j v, cs[j]? = some v → w.cell? (a.add j) = some v)
    (hvs : ∀ j v, vs[j]? = some v → w.cell? ⟨vb, voff + j, none⟩ = some v) (h1v : ∀ v ∈ vs, v.oneCell' = true) :
    Calls P (ρ.f 22) #[.slice base n c, .int .i64 n, .slice (some ⟨vb, voff, none⟩) 1 vc] w fun e w' =>
      e = .returned (.slice (some ⟨w.heap.size, 0, none⟩) (n + 1) (grownCap w (n + 1) c (ρ.t 9))) ∧
      w' = w.drew.alloc (.cells ((cs ++ vs).toArray ++ Builtin.zeroCells Z (grownCap w (n + 1) c (ρ.t 9) - (n + 1))) (ρ.t 9)) := by
  have t0 := L.t0; have a0 := L.a0; have z0 := L.z0; have v0 := L.v0; have t3 := L.t3; have a3 := L.a3; have z3 := L.z3; have v3 := L.v3; have t4 := L.t4; have a4 := L.a4; have z4 := L.z4; have v4 := L.v4; have z9 := L.z9; have t24 := L.t24; have a24 := L.a24; have z24 := L.z24; have v24 := L.v24
  have u0 := run_underlying L.t0; have u3 := run_underlying L.t3; have u4 := run_underlying L.t4; have u24 := run_underlying L.t24
  have mixed := L.mixed
  obtain ⟨i0, hi0, hz0, hzs, hzb⟩ := info_parts2 L.i9
  have hsrc : Src P i0.size (ρ.t 24) (.slice (some ⟨vb, voff, none⟩) 1 vc) 1 vs w := by
    rw [hzs]
    exact Src.ofSlice w L.t24 ⟨vb, voff, none⟩ 1 vc vs (by omega) (fun j u hj => by rw [Addr.add_lit]; exact hvs j u hj) h1v
  have hold : (Builtin.firstCells i0.size n (.slice base n c)).run P w.drew = .ok cs.toArray w.drew := by
    rw [hzs]
    cases base with
    | none =>
      have h0 := hnil rfl
      subst h0
      rw [List.length_eq_zero_iff.1 (show cs.length = 0 by omega)]
      exact run_firstCells_none w.drew 2 0 0 c
    | some a => exact run_firstCells_some w.drew 2 n a n c cs (by omega) (fun j v hj => hcs a rfl j v hj)
  have hrun : ∀ ty, (Builtin.append_ #[(ρ.t 24), (ρ.t 24)] ty #[.slice base n c, .slice (some ⟨vb, voff, none⟩) 1 vc]).run P w = .ok (.slice (some ⟨w.heap.size, 0, none⟩) (n + 1) (grownCap w (n + 1) c (ρ.t 9))) (w.drew.alloc (.cells ((cs ++ vs).toArray ++ Builtin.zeroCells Z (grownCap w (n + 1) c (ρ.t 9) - (n + 1))) (ρ.t 9))) := fun ty => by
    rw [← hZ]
    exact run_append_grow_src w (ρ.t 24) (ρ.t 24) ty (ρ.t 9) i0 _ L.t24 hi0 hz0 base n c cs hold _ 1 vs hsrc hroom (by omega) (by rw [hzb]; exact growslice_fits hroom (Nat.le_trans (Nat.mul_le_mul hbig hB) (by omega)))
  go_enter L.f22, Body2.n22_ntmps ρ
  cases base with
  | none =>
    have h0 := hnil rfl
    subst h0
    go_wp2_with (at_builtin; refine Lib.wpList_append_run _ rfl _ _ _ _ rfl _ _ rfl rfl _ _ (hrun _) ?_)
    go_ret
    exact ⟨rfl, rfl⟩
  | some a =>
    obtain ⟨ab, ao, asp⟩ := a
    go_wp2_with (at_builtin; refine Lib.wpList_append_run _ rfl _ _ _ _ rfl _ _ rfl rfl _ _ (hrun _) ?_)
    all_goals (go_ret; exact ⟨rfl, rfl⟩)
set_option maxHeartbeats 4000000 in
set_option maxRecDepth 100000 in
theorem ins_grow {nm : String} {fo : Func} {zv : Value} {B : Nat} (L : LayIns P ρ nm fo zv B) {Z : Array Value} (hZ : zv.cells = Z) (hB : B ≤ 72) (b off n c i vb voff vc : Nat) (cs vs : List Value) (w : World) (hi : i < n) (hnc : n ≤ c) (hroom : c < n + 1) (hbig : n + 1 ≤ 1000000000)
    (hcl : cs.length = n * 2) (hvl : vs.length = 2)
    (hcs : ∀ j v, cs[j]? = some v → w.cell? ⟨b, off + j, none⟩ = some v)
    (hvs : ∀ j v, vs[j]? = some v → w.cell? ⟨vb, voff + j, none⟩ = some v) (h1c : ∀ v ∈ cs, v.oneCell' = true) (h1v : ∀ v ∈ vs, v.oneCell' = true) :
    Calls P (ρ.f 22) #[.slice (some ⟨b, off, none⟩) n c, .int .i64 i, .slice (some ⟨vb, voff, none⟩) 1 vc] w fun e w' =>
      e = .returned (.slice (some ⟨w.heap.size, 0, none⟩) (n + 1) (grownCap w (n + 1) c (ρ.t 9))) ∧
      w' = (((w.alloc (.cells ((cs.take (i * 2)).toArray ++ Builtin.zeroCells Z (n + 1 - i) ++ Builtin.zeroCells Z (grownCap w (n + 1) c (ρ.t 9) - (n + 1))) (ρ.t 9))).drew.setCells w.heap.size (i * 2) vs).drew).setCells w.heap.size ((i + 1) * 2) (cs.drop (i * 2)) := by
  have t0 := L.t0; have a0 := L.a0; have z0 := L.z0; have v0 := L.v0; have t3 := L.t3; have a3 := L.a3; have z3 := L.z3; have v3 := L.v3; have t4 := L.t4; have a4 := L.a4; have z4 := L.z4; have v4 := L.v4; have z9 := L.z9; have t24 := L.t24; have a24 := L.a24; have z24 := L.z24; have v24 := L.v24
  have u0 := run_underlying L.t0; have u3 := run_underlying L.t3; have u4 := run_underlying L.t4; have u24 := run_underlying L.t24
  have mixed := L.mixed
  obtain ⟨i0, hi0, hz0, hzs, hzb⟩ := info_parts2 L.i9
  have hzc : Z.size = 2 := hZ ▸ L.zc
  have hz2 : ¬ ((i : Int) = (n : Int)) := by omega
  have hz3 : (c : Int) < (n : Int) + 1 := by omega
  have hsz : (P.info? (ρ.t 9)).map (·.size) = some 2 := by rw [hi0]; simp [hzs]
  have hbw : b < w.heap.size := block_lt_of_cell (hcs 0 _ (List.getElem?_eq_getElem (by omega)))
  have hvw : vb < w.heap.size := block_lt_of_cell (hvs 0 _ (List.getElem?_eq_getElem (by omega)))
  have hkk : (n : Int) + 1 - (i : Int) = ((n + 1 - i : Nat) : Int) := by omega
  have hik : i + (n + 1 - i) = n + 1 := by omega
  have hold : (Builtin.firstCells i0.size i (.slice (some ⟨b, off, none⟩) i c)).run P w.drew = .ok (cs.take (i * 2)).toArray w.drew := by
    rw [hzs]
    exact run_firstCells_some w.drew 2 i ⟨b, off, none⟩ i c (cs.take (i * 2)) (by rw [List.length_take]; omega) (fun j v hj => by
      rw [Addr.add_lit]
      rw [List.getElem?_take] at hj
      split at hj
      · exact hcs j v hj
      · cases hj)
  have hrz : ∀ ty, (Builtin.append_ #[(ρ.t 24), (ρ.t 3)] ty #[.slice (some ⟨b, off, none⟩) i c, .int .i64 ((n : Int) + 1 - (i : Int))]).run P w =
      .ok (.slice (some ⟨w.heap.size, 0, none⟩) (n + 1) (grownCap w (n + 1) c (ρ.t 9))) (w.drew.alloc (.cells ((cs.take (i * 2)).toArray ++ Builtin.zeroCells Z (n + 1 - i) ++ Builtin.zeroCells Z (grownCap w (n + 1) c (ρ.t 9) - (n + 1))) (ρ.t 9))) := fun ty => by
    have h := Lib.run_append_grow_zeros w (ρ.t 24) (ρ.t 3) ty (ρ.t 9) i0 _ .i64 .i64 L.t24 L.t3 hi0 hz0 (some ⟨b, off, none⟩) i c (cs.take (i * 2)) hold (n + 1 - i) (by omega) (by omega) (by omega) (by omega) (by rw [hzb]; exact Nat.le_trans (Nat.mul_le_mul (show n + 1 - i ≤ 1000000000 by omega) hB) (by omega)) (by rw [hzb, hik]; exact growslice_fits hroom (Nat.le_trans (Nat.mul_le_mul hbig hB) (by omega)))
    rw [hik, hZ] at h
    rw [hkk]
    exact h
  obtain ⟨G, hG⟩ : ∃ G, G = grownCap w (n + 1) c (ρ.t 9) := ⟨_, rfl⟩
  obtain ⟨ROW, hROW⟩ : ∃ ROW : Array Value, ROW = (cs.take (i * 2)).toArray ++ Builtin.zeroCells Z (n + 1 - i) ++ Builtin.zeroCells Z (G - (n + 1)) := ⟨_, rfl⟩
  rw [← hG] at hrz ⊢
  rw [← hROW] at hrz ⊢
  have hzl : ∀ k, (Builtin.zeroCells Z k).size = k * 2 := fun k => by simp [Builtin.zeroCells, hzc]
  have hRl : (n + 1) * 2 ≤ ROW.size := by
    rw [hROW]
    simp only [Array.size_append, hzl, List.size_toArray, List.length_take]
    omega
  obtain ⟨W1, hW1⟩ : ∃ W1, W1 = w.drew.alloc (.cells ROW (ρ.t 9)) := ⟨_, rfl⟩
  rw [← hW1] at hrz
  have hN : ∀ j, j < (n + 1) * 2 → (W1.cell? ⟨w.heap.size, j, none⟩).isSome = true := fun j hj => by
    rw [hW1, World.cell?_alloc_at (w := w.drew) ROW _ w.heap.size j rfl, Array.getElem?_eq_getElem (by omega)]; rfl
  have hNf : ∀ j, W1.frozen? ⟨w.heap.size, j, none⟩ = false := fun j => by rw [hW1]; exact World.frozen?_alloc_at (w := w.drew) ROW _ w.heap.size j rfl
  have hOb : ∀ j v, w.cell? ⟨b, j, none⟩ = some v → W1.cell? ⟨b, j, none⟩ = some v := fun j v h => by rw [hW1, World.cell?_alloc_past (w := w.drew) _ b j hbw]; exact h
  have hOv : ∀ j v, w.cell? ⟨vb, j, none⟩ = some v → W1.cell? ⟨vb, j, none⟩ = some v := fun j v h => by rw [hW1, World.cell?_alloc_past (w := w.drew) _ vb j hvw]; exact h
  have hcpA : ∀ (W : World), (∀ x, W.cell? x = W1.cell? x) → (∀ x, W.frozen? x = W1.frozen? x) → ∀ ty dc, (Builtin.copy_ #[(ρ.t 24), (ρ.t 24)] ty #[.slice (some ⟨w.heap.size, i * 2, none⟩) (n + 1 - i) dc, .slice (some ⟨vb, voff, none⟩) 1 vc]).run P W = .ok (goInt (1 : Nat)) (W.setCells w.heap.size (i * 2) vs) := fun W hWc hWf ty dc =>
    run_copy_cellsK W _ _ ty (ρ.t 9) 2 1 w.heap.size (i * 2) (n + 1 - i) dc ⟨vb, voff, none⟩ 1 vc vs L.t24 hsz (by simp only [Nat.min_def]; split <;> omega) hvl
      (fun j v hj => by rw [Addr.add_lit, hWc]; exact hOv _ v (hvs j v hj))
      (fun j hj => by rw [hWc]; exact hN _ (by omega)) (fun j hj => by rw [hWf]; exact hNf _) h1v
  have hGn : n + 1 ≤ G := by rw [hG]; exact grownCap_ge w _ _ _
  have hG63 : G ≤ 9223372036854775807 := by
    have := grownCap_le_maxLen w (n + 1) c (ρ.t 9) (by unfold maxLen; omega)
    rw [← hG] at this
    unfold maxLen at this
    omega
  have hGi : ¬ (G = i) := by omega
  have hGim : ¬ (G = i + 1) := by omega
  have hci : ¬ (c = i) := by omega
  have hbN : b ≠ w.heap.size := by omega
  have hdl : (cs.drop (i * 2)).length = (n - i) * 2 := by rw [List.length_drop, hcl]; omega
  have hcpB : ∀ (W : World), (∀ x, W.cell? x = (W1.setCells w.heap.size (i * 2) vs).cell? x) → (∀ x, W.frozen? x = (W1.setCells w.heap.size (i * 2) vs).frozen? x) → ∀ ty dc sc, (Builtin.copy_ #[(ρ.t 24), (ρ.t 24)] ty #[.slice (some ⟨w.heap.size, (i + 1) * 2, none⟩) (n - i) dc, .slice (some ⟨b, off + i * 2, none⟩) (n - i) sc]).run P W = .ok (goInt (n - i : Nat)) (W.setCells w.heap.size ((i + 1) * 2) (cs.drop (i * 2))) := fun W hWc hWf ty dc sc =>
    run_copy_cellsK W _ _ ty (ρ.t 9) 2 (n - i) w.heap.size ((i + 1) * 2) (n - i) dc ⟨b, off + i * 2, none⟩ (n - i) sc (cs.drop (i * 2)) L.t24 hsz (by simp only [Nat.min_def]; split <;> omega) hdl
      (fun j v hj => by
        rw [Addr.add_lit, hWc, World.cell?_setCells_out _ _ _ _ _ (fun h _ => absurd h hbN), Nat.add_assoc]
        exact hOb _ v (hcs (i * 2 + j) v (by rwa [List.getElem?_drop] at hj)))
      (fun j hj => by rw [hWc]; exact isSome_setCells _ _ _ _ (fun t ht => hN _ (by omega)) _ (hN _ (by omega)))
      (fun j hj => by rw [hWf, World.frozen?_setCells]; exact hNf _) (fun v hv => h1c v (List.mem_of_mem_drop hv))
  subst hW1
  have hE1 : ∀ x, ((w.alloc (.cells ROW (ρ.t 9))).drew).cell? x = (w.drew.alloc (.cells ROW (ρ.t 9))).cell? x := fun x => rfl
  have hE2 : ∀ x, ((w.alloc (.cells ROW (ρ.t 9))).drew).frozen? x = (w.drew.alloc (.cells ROW (ρ.t 9))).frozen? x := fun x => rfl
  have hF1 : ∀ x, (((w.alloc (.cells ROW (ρ.t 9))).drew.setCells w.heap.size (i * 2) vs).drew).cell? x = ((w.drew.alloc (.cells ROW (ρ.t 9))).setCells w.heap.size (i * 2) vs).cell? x := fun x => rfl
  have hF2 : ∀ x, (((w.alloc (.cells ROW (ρ.t 9))).drew.setCells w.heap.size (i * 2) vs).drew).frozen? x = ((w.drew.alloc (.cells ROW (ρ.t 9))).setCells w.heap.size (i * 2) vs).frozen? x := fun x => rfl
  have hw1 : IntKind.i64.wrap ((i : Int) + 1) = (i : Int) + 1 := by rw [IntKind.wrap_i64]; omega
  have hw2 : IntKind.i64.wrap ((n : Int) + 1) = (n : Int) + 1 := by rw [IntKind.wrap_i64]; omega
  have hb1 : (0 : Int) ≤ (i : Int) + 1 := by omega
  have hin : i ≤ n := by omega
  have htn : ((i : Int) + 1).toNat = i + 1 := by omega
  have hb3 : (i : Int) ≤ (n : Int) := by omega
  clear hkk hik hold hROW hG hRl hzl hZ
  go_enter L.f22, Body2.n22_ntmps ρ
  go_wp2_with (first
    | (at_builtin; refine Lib.wpList_append_run _ rfl _ _ _ _ rfl _ _ rfl rfl _ _ (hrz _) ?_)
    | (at_builtin; refine wpList_copy_runI _ rfl _ _ (ρ.t 24) (ρ.t 24) rfl _ _ rfl rfl (hcpA _ hE1 hE2 _ _) ?_)
    | (at_builtin; refine wpList_copy_runI _ rfl _ _ (ρ.t 24) (ρ.t 24) rfl _ _ rfl rfl (hcpB _ (fun _ => rfl) (fun _ => rfl) _ _ _) ?_))
  go_region_law_o (refine step_copy_runI rfl _ _ (ρ.t 24) (ρ.t 24) rfl (.slice (some ⟨w.heap.size, (i + 1) * 2, none⟩) (n - i) (G - (i + 1))) (.slice (some ⟨b, off + i * 2, none⟩) (n - i) (c - i)) (by simp [Act.eval, Act.put]) (by simp [Act.eval, Act.put]) (hcpB _ hF1 hF2 (ρ.t 3) (G - (i + 1)) (c - i)) ?_)
  go_wp2
  go_ret
  exact ⟨rfl, rfl⟩
end Go.Proofs
