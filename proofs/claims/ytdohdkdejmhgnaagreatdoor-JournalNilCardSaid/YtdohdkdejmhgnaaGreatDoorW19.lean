/- Part of a proof: see Root. -/
import Derived.Test.YtdohdkdejmhgnaaGreatDoorW18
import Derived.Shelf.Strings.OnBuilder
import Derived.Shelf.Strings.Repeat
import Derived.Shelf.Small.Strs
import Derived.Shelf.Small.Wraps
import Derived.Shelf.LaysM
import Derived.Shelf.Strconv.Itoa3
import Derived.Test.YtdohdkdejmhgnaaGreatDoorProg
set_option linter.unnecessarySimpa false
set_option linter.unusedSectionVars false
set_option linter.unusedSimpArgs false
set_option linter.unusedVariables false
namespace Go.Proofs.YtdohdkdejmhgnaaGreatDoor
open Go.AM
set_option maxRecDepth 4000
def eInt (n : Int) : AV := I n
def eInts (l : List Int) : AV := .lst false E1 (l.map eInt)
def eRows (l : List (List Val)) : AV := .lst false E1 (l.map eVals)
def cEnt (e : Ent) : List AV := [.str e.table, I e.ver, eVals e.input, I e.err, eInts e.rules, eRows e.rows]
def eEnt (e : Ent) : AV := .agg (cEnt e)
attribute [go_sem] eInt eInts eRows cEnt eEnt
theorem pur_eRows (l : List (List Val)) : (eRows l).pur = true := by simp only [eRows, AV.pur]; exact purL_map _ _ pur_eVals
theorem purL_i (l : List Int) : AV.purL (l.map eInt) = true := purL_map _ _ (fun _ => rfl)
theorem purL_r (l : List (List Val)) : AV.purL (l.map eVals) = true := purL_map _ _ pur_eVals
attribute [simp] pur_eRows purL_i purL_r
theorem entry_plain_1 (v : Val) (hn : rng v.n) : CallF Tryz.prog n_entry_plain_1 [eVal v] (.bool (!rightV v)) := by
  have c := value_Check v.kind v.n v.s hn.1 hn.2
  have ev : rightV ⟨v.kind, v.n, v.s⟩ = rightV v := rfl
  rw [ev] at c
  obtain ⟨b, hb⟩ : ∃ b, rightV v = b := ⟨_, rfl⟩
  rw [hb] at c ⊢
  simp only [eVal]
  refine CallF.of_nil (of_entry_plain_1 (by simp) ?_) (by simp)
  unfold b_entry_plain_1 WpR
  intro Q hQr hQn hQp
  cases b
  all_goals
    simp only [errB, if_true, Bool.false_eq_true, if_false] at c
    repeat' first | refine go_ ?_ | refine cf_ c ?_ | refine br_ (fun hw => ?_) (fun hw => ?_) <;> try omega | fail
    exact leafE rfl rfl
theorem idxF_any {α : Type} [Inhabited α] (p : α → Bool) (l : List α) : decide (0 ≤ idxF p l) = l.any p := by
  rcases find_idx p l with ⟨h1, h2⟩ | ⟨i, h1, h2, h3⟩
  · rw [h1, show decide ((0 : Int) ≤ -1) = false from (by decide)]; symm
    rw [List.any_eq_false]; exact List.find?_eq_none.1 h2
  · rw [h2, decide_eq_true (by omega)]; symm
    rw [List.any_eq_true]; exact ⟨_, getD_mem h1, List.find?_some h3⟩
theorem slices_IndexFunc_Value (fn : FuncId) (p : Val → Bool) (l : List Val) (h : ∀ k, k < l.length → CallF Tryz.prog fn [eVal (l.getD k default)] (.bool (p (l.getD k default)))) (hl : l.length ≤ 2 ^ 62) :
    CallF Tryz.prog n_slices_IndexFunc_Value [eVals l, .fn (.func fn) [] []] (I (idxF p l)) := by
  refine CallF.of_nil (of_slices_IndexFunc_Value (by simp) ?_) (by simp [AV.pur, AV.purL, pur_eVals])
  unfold b_slices_IndexFunc_Value WpR
  intro Q hQr hQn hQp
  repeat' first | refine go_ ?_ | refine br_ (fun hw => ?_) (fun hw => ?_) <;> try omega | fail
  with_reducible refine loop_i [4, 5, 8, 9, 10, 11, 12, 13, 14, 15, 16, 17, 18] (fun i : Nat => [(8, I i)]) (fun _ => []) (fun i => i ≤ l.length ∧ ∀ k, k < i → p (l.getD k default) = false) (fun i => l.length - i) (0) ?_ ?_ ?_ ?_
  · simp
  · rfl
  · exact at_
  · rintro i r ⟨hi, hp⟩
    by_cases hin : i < l.length
    · have hx := h i hin
      simp only [eVal] at hx
      repeat' first | refine go_ ?_ | refine cf_ hx ?_ | refine br_ (fun hw => ?_) (fun hw => ?_) <;> try omega | fail
      · refine leafE ?_ rfl
        refine congrArg I ?_
        exact (idxF_at hin hp hw).symm
      · refine ⟨i + 1, ?_, ?_, by first | rfl | (simp [go_sem]; done), ou_, at_⟩ <;> (try dsimp only)
        · exact ⟨by omega, before_succ hp hw⟩
        · omega
    · repeat' first | refine go_ ?_ | refine br_ (fun hw => ?_) (fun hw => ?_) <;> try omega | fail
      refine leafE ?_ rfl
      refine congrArg I ?_
      exact (idxF_none fun k hk => hp k (by omega)).symm
theorem slices_ContainsFunc_Value (fn : FuncId) (p : Val → Bool) (l : List Val) (h : ∀ k, k < l.length → CallF Tryz.prog fn [eVal (l.getD k default)] (.bool (p (l.getD k default)))) (hl : l.length ≤ 2 ^ 62) :
    CallF Tryz.prog n_slices_ContainsFunc_Value [eVals l, .fn (.func fn) [] []] (.bool (l.any p)) := by
  refine CallF.of_nil (of_slices_ContainsFunc_Value (by simp) ?_) (by simp [AV.pur, AV.purL, pur_eVals])
  unfold b_slices_ContainsFunc_Value WpR
  intro Q hQr hQn hQp
  have hc := slices_IndexFunc_Value fn p l h hl
  simp only [eVals] at hc
  repeat' first | refine go_ ?_ | refine cf_ hc ?_ | refine br_ (fun hw => ?_) (fun hw => ?_) <;> try omega | fail
  all_goals refine leafE ?_ rfl
  all_goals rw [← idxF_any]
theorem not_any (l : List Val) : (!l.any fun v => !rightV v) = l.all rightV := by
  induction l with
  | nil => rfl
  | cons a l ih => rw [List.any_cons, List.all_cons, ← ih]; cases rightV a <;> simp
theorem entry_plain (l : List Val) (hl : okVals l) : CallF Tryz.prog n_entry_plain [eVals l] (.bool (plainV l)) := by
  have c := slices_ContainsFunc_Value n_entry_plain_1 (fun v => !rightV v) l (fun k hk => entry_plain_1 _ (hl.2 _ (getD_mem hk)).1) (by have := hl.1; omega)
  obtain ⟨E, hE⟩ : ∃ E, plainV l = E := ⟨_, rfl⟩
  rw [hE]
  unfold plainV at hE
  rw [← not_any] at hE
  generalize (l.any fun v => !rightV v) = b at *
  simp only [eVals] at c ⊢
  refine CallF.of_nil (of_entry_plain (by simp) ?_) (by simp)
  unfold b_entry_plain WpR
  intro Q hQr hQn hQp
  repeat' first | refine go_ ?_ | refine cf_ c ?_ | refine br_ (fun hw => ?_) (fun hw => ?_) <;> try omega | fail
  all_goals first
    | exact ab_
    | (refine leafE ?_ rfl; rw [← hE, decide_eq_true (by omega), Bool.true_and]; done)
    | (refine leafE ?_ rfl; rw [← hE, decide_eq_false (by omega), Bool.false_and]; done)
end Go.Proofs.YtdohdkdejmhgnaaGreatDoor
namespace Go.Proofs.YtdohdkdejmhgnaaGreatDoor
open Go.AM
set_option maxRecDepth 4000
theorem rise_all {l : List Int} (h : ∀ k, k < l.length → riseK l k = true) : riseS l = true := List.all_eq_true.2 fun k hk => h k (List.mem_range.1 hk)
theorem rise_no {l : List Int} {i : Nat} (hi : i < l.length) (h : riseK l i = false) : riseS l = false := by
  cases hr : riseS l with
  | false => rfl
  | true => have := List.all_eq_true.1 hr i (List.mem_range.2 hi); rw [h] at this; cases this
theorem entry_rising (l : List Int) (hl : l.length ≤ 2 ^ 30) : CallF Tryz.prog n_entry_rising [eInts l] (.bool (riseS l)) := by
  obtain ⟨E, hE⟩ : ∃ E, riseS l = E := ⟨_, rfl⟩
  rw [hE]
  simp only [eInts]
  refine CallF.of_nil (of_entry_rising (by simp) ?_) (by simp)
  unfold b_entry_rising WpR
  intro Q hQr hQn hQp
  repeat' first | refine go_ ?_ | refine br_ (fun hw => ?_) (fun hw => ?_) <;> try omega | fail
  with_reducible refine loop_i [2, 3, 5, 8, 9, 10, 11, 12, 13, 14, 15, 16, 17, 18, 19, 20] (fun q : Nat => [(8, I q), (3, I (lastK l q))]) (fun _ => []) (fun q => q ≤ l.length ∧ ∀ k, k < q → riseK l k = true) (fun q => l.length - q) (0) ?_ ?_ ?_ ?_
  · simp
  · rfl
  · have : lastK l 0 = -1 := rfl
    rw [this]; simp (disch := omega) only [at_nil, at_cons, and_true, go_sem, hQr, hQn, hQp, wrapK_i64, wrapK_u8, wrapK_u64, Nat.reduceAdd, Nat.reduceBEq, ↓reduceIte, Int.natCast_add, Int.cast_ofNat_Int] <;> (try trivial) <;> (try omega) <;> (try (repeat (first | trivial | (refine And.intro ?_ ?_) | (congr 1; omega))))
  rintro i r ⟨g1, g2⟩
  by_cases hi : i < l.length
  · have hne := fun h => rise_no (l := l) hi h
    have hbs := fun he => before_succ (q := fun k => riseK l k = true) g2 (i := i) he
    have hk : riseK l i = decide (lastK l i < l.getD i default ∧ l.getD i default < 24) := rfl
    have hs : lastK l (i + 1) = l.getD i default := by unfold lastK; rw [if_neg (by omega), Nat.add_sub_cancel]; rfl
    obtain ⟨n, hn⟩ : ∃ n, l.getD i default = n := ⟨_, rfl⟩
    rw [hn] at hk hs
    generalize lastK l i = m at *
    repeat' first | simp (disch := omega) only [go_sem, hQr, hQn, hQp, wrapK_i64, wrapK_u8, wrapK_u64, Nat.reduceAdd, Nat.reduceBEq, ↓reduceIte, hn] | refine go_ ?_ | refine br_ (fun hw => ?_) (fun hw => ?_) <;> try omega | fail
    all_goals first
      | exact ab_
      | (exact leafE (by rw [← hE, hne (by rw [hk, decide_eq_false (by omega)])]) rfl)
      | (refine ⟨i + 1, ?_, ?_, ?_, ou_, ?_⟩
         · exact ⟨by omega, hbs (by rw [hk, decide_eq_true (by omega)])⟩
         · dsimp only; omega
         · first | rfl | (simp [go_sem]; done)
         · dsimp only; rw [hs]; simp (disch := omega) only [at_nil, at_cons, and_true, go_sem, hQr, hQn, hQp, wrapK_i64, wrapK_u8, wrapK_u64, Nat.reduceAdd, Nat.reduceBEq, ↓reduceIte, Int.natCast_add, Int.cast_ofNat_Int] <;> (try trivial) <;> (try omega) <;> (try (repeat (first | trivial | (refine And.intro ?_ ?_) | (congr 1; omega)))))
  · repeat' first | refine go_ ?_ | refine br_ (fun hw => ?_) (fun hw => ?_) <;> try omega | fail
    exact leafE (by rw [← hE, rise_all (fun k hk => g2 k (by omega))]) rfl
theorem entry_right_1 (l : List Val) (hl : okVals l) : CallF Tryz.prog n_entry_right_1 [eVals l] (.bool (!plainV l)) := by
  have c := entry_plain l hl
  generalize plainV l = b at *
  simp only [eVals] at c ⊢
  refine CallF.of_nil (of_entry_right_1 (by simp) ?_) (by simp)
  unfold b_entry_right_1 WpR
  intro Q hQr hQn hQp
  repeat' first | refine go_ ?_ | refine cf_ c ?_ | refine br_ (fun hw => ?_) (fun hw => ?_) <;> try omega | fail
  exact leafE rfl rfl
theorem slices_IndexFunc_LValue (fn : FuncId) (p : List Val → Bool) (l : List (List Val)) (h : ∀ k, k < l.length → CallF Tryz.prog fn [eVals (l.getD k default)] (.bool (p (l.getD k default)))) (hl : l.length ≤ 2 ^ 62) :
    CallF Tryz.prog n_slices_IndexFunc_LValue [eRows l, .fn (.func fn) [] []] (I (idxF p l)) := by
  refine CallF.of_nil (of_slices_IndexFunc_LValue (by simp) ?_) (by simp [AV.pur, AV.purL, pur_eRows])
  unfold b_slices_IndexFunc_LValue WpR
  intro Q hQr hQn hQp
  repeat' first | refine go_ ?_ | refine br_ (fun hw => ?_) (fun hw => ?_) <;> try omega | fail
  with_reducible refine loop_i [4, 5, 8, 9, 10, 11, 12, 13, 14, 15, 16, 17, 18] (fun i : Nat => [(8, I i)]) (fun _ => []) (fun i => i ≤ l.length ∧ ∀ k, k < i → p (l.getD k default) = false) (fun i => l.length - i) (0) ?_ ?_ ?_ ?_
  · simp
  · rfl
  · exact at_
  · rintro i r ⟨hi, hp⟩
    by_cases hin : i < l.length
    · have hx := h i hin
      simp only [eVals] at hx
      repeat' first | refine go_ ?_ | refine cf_ hx ?_ | refine br_ (fun hw => ?_) (fun hw => ?_) <;> try omega | fail
      · refine leafE ?_ rfl
        refine congrArg I ?_
        exact (idxF_at hin hp hw).symm
      · refine ⟨i + 1, ?_, ?_, by first | rfl | (simp [go_sem]; done), ou_, at_⟩ <;> (try dsimp only)
        · exact ⟨by omega, before_succ hp hw⟩
        · omega
    · repeat' first | refine go_ ?_ | refine br_ (fun hw => ?_) (fun hw => ?_) <;> try omega | fail
      refine leafE ?_ rfl
      refine congrArg I ?_
      exact (idxF_none fun k hk => hp k (by omega)).symm
theorem slices_ContainsFunc_LValue (fn : FuncId) (p : List Val → Bool) (l : List (List Val)) (h : ∀ k, k < l.length → CallF Tryz.prog fn [eVals (l.getD k default)] (.bool (p (l.getD k default)))) (hl : l.length ≤ 2 ^ 62) :
    CallF Tryz.prog n_slices_ContainsFunc_LValue [eRows l, .fn (.func fn) [] []] (.bool (l.any p)) := by
  refine CallF.of_nil (of_slices_ContainsFunc_LValue (by simp) ?_) (by simp [AV.pur, AV.purL, pur_eRows])
  unfold b_slices_ContainsFunc_LValue WpR
  intro Q hQr hQn hQp
  have hc := slices_IndexFunc_LValue fn p l h hl
  simp only [eRows] at hc
  repeat' first | refine go_ ?_ | refine cf_ hc ?_ | refine br_ (fun hw => ?_) (fun hw => ?_) <;> try omega | fail
  all_goals refine leafE ?_ rfl
  all_goals rw [← idxF_any]
theorem not_anyP (l : List (List Val)) : (!l.any fun v => !plainV v) = l.all plainV := by
  induction l with
  | nil => rfl
  | cons a l ih => rw [List.any_cons, List.all_cons, ← ih]; cases plainV a <;> simp
end Go.Proofs.YtdohdkdejmhgnaaGreatDoor
namespace Go.Proofs.YtdohdkdejmhgnaaGreatDoor
open Go.AM
set_option maxRecDepth 4000
theorem right_no {a b c d : Bool} {B D : Int} {n : Nat} (h : ¬(a = true ∧ (1 ≤ B ∧ B ≤ 2147483648) ∧ (0 ≤ D ∧ D ≤ 99) ∧ b = true ∧ n ≤ 24 ∧ c = true)) : (a && decide (1 ≤ B ∧ B ≤ 2147483648) && decide (0 ≤ D ∧ D ≤ 99) && b && decide (n ≤ 24) && c && d) = false := by
  cases hx : (a && decide (1 ≤ B ∧ B ≤ 2147483648) && decide (0 ≤ D ∧ D ≤ 99) && b && decide (n ≤ 24) && c && d) with
  | false => rfl
  | true =>
    simp only [Bool.and_eq_true, decide_eq_true_eq] at hx
    exact absurd ⟨hx.1.1.1.1.1.1, hx.1.1.1.1.1.2, hx.1.1.1.1.2, hx.1.1.1.2, hx.1.1.2, hx.1.2⟩ h
theorem right_yes {a b c d : Bool} {B D : Int} {n : Nat} (h1 : a = true) (h2 : 1 ≤ B ∧ B ≤ 2147483648) (h3 : 0 ≤ D ∧ D ≤ 99) (h4 : b = true) (h5 : n ≤ 24) (h6 : c = true) : (a && decide (1 ≤ B ∧ B ≤ 2147483648) && decide (0 ≤ D ∧ D ≤ 99) && b && decide (n ≤ 24) && c && d) = d := by
  subst h1; subst h4; subst h6; rw [decide_eq_true h2, decide_eq_true h3, decide_eq_true h5]; simp
theorem tf {b : Bool} (h : b = true) (h' : b = false) : False := by rw [h] at h'; cases h'
theorem entry_right (e : Ent) (ok : okEnt e) : CallF Tryz.prog n_entry_right [eEnt e] (.bool (rightE e)) := by
  obtain ⟨o1, o2, o3, o4, o5, o6, o7⟩ := ok
  have c1 := lex_Name e.table (by omega)
  have c2 := entry_rising e.rules o5.1
  have c3 := entry_plain e.input o3
  have c4 := slices_ContainsFunc_LValue n_entry_right_1 (fun v => !plainV v) e.rows (fun k hk => entry_right_1 _ (o7 _ (getD_mem hk))) (by omega)
  obtain ⟨E, hE⟩ : ∃ E, rightE e = E := ⟨_, rfl⟩
  rw [hE]
  unfold rightE at hE
  rw [← not_anyP] at hE
  obtain ⟨A, B, C, D, F, G⟩ := e
  dsimp only at *
  generalize nameS A = a at *
  generalize riseS F = b at *
  generalize plainV C = c at *
  generalize (G.any fun v => !plainV v) = d at *
  simp only [eInts, eVals, eRows, eEnt, cEnt] at c2 c3 c4 ⊢
  refine CallF.of_nil (of_entry_right (by simp) ?_) (by simp)
  unfold b_entry_right WpR
  intro Q hQr hQn hQp
  repeat' first | refine go_ ?_ | refine cf_ c1 ?_ | refine cf_ c2 ?_ | refine cf_ c3 ?_ | refine cf_ c4 ?_ | refine br_ (fun hw => ?_) (fun hw => ?_) <;> try omega | fail
  all_goals first
    | exact ab_
    | (refine leafE ?_ rfl
       rw [← hE]
       refine congrArg AV.bool ?_
       first
         | (rw [right_yes (by assumption) (by omega) (by omega) (by assumption) (by omega) (by assumption)]; done)
         | (refine (right_no ?_).symm
            rintro ⟨h1, h2, h3, h4, h5, h6⟩
            first
              | omega
              | exact tf h1 (by assumption)
              | exact tf h4 (by assumption)
              | exact tf h6 (by assumption)))
    | trace_state
end Go.Proofs.YtdohdkdejmhgnaaGreatDoor
namespace Go.Proofs.YtdohdkdejmhgnaaGreatDoor
open Go.AM
set_option maxRecDepth 4000
end Go.Proofs.YtdohdkdejmhgnaaGreatDoor
namespace Go.Proofs.YtdohdkdejmhgnaaGreatDoor
open Go.AM
set_option maxRecDepth 4000
theorem fm_snoc {α : Type} [Inhabited α] (f : α → Str) {l : List α} {i : Nat} (hi : i < l.length) (x : Str) : x ++ (l.take (i + 1)).flatMap f = (x ++ (l.take i).flatMap f) ++ f (l.getD i default) := by
  rw [take_succ hi, List.flatMap_append]; simp
theorem textB_len (s : Str) : (textB s).length ≤ 10 + s.length := by unfold textB; have := numB_len s.length; rw [List.length_append]; omega
theorem rowB_len {l : List Val} (hl : l.length ≤ 8) (h : ∀ v ∈ l, rightV v = true) : (rowB l).length ≤ 1000 := by
  have h1 := numB_len l.length
  have h2 : (l.flatMap bytesV).length ≤ 70 * l.length := by
    clear h1 hl
    induction l with
    | nil => simp
    | cons v l ih =>
      have a1 := bytesV_len v
      have a2 := right_ok (h v (by simp))
      have a3 := ih (fun w hw => h w (by simp [hw]))
      rw [List.flatMap_cons, List.length_append, List.length_cons]; omega
  unfold rowB; rw [List.length_append]; omega
theorem max_of {a b : Nat} (h : a + b ≤ 2 ^ 40) : ((a + b : Nat) : Int) ≤ IntKind.i64.max := by show _ ≤ (9223372036854775807 : Int); omega
section
variable {σ : Store} {K Kp : AV → Store → Prop} {k : Nat}
theorem entry_text_1 {s x : Str} {l : List Val} (hok : okVals l) (hr : l.all rightV = true) (hx : rowB l = x) (hσ : σ[k]? = some (.cells [.str s])) (ha : ((s.length + x.length : Nat) : Int) ≤ IntKind.i64.max) (hk : bindV (.tup []) (.mk : Tg fun r => bindS (σ.set k (.cells [.str (s ++ x)])) (.mk : Tg fun σ => K r σ))) : callL Tryz.prog n_entry_text_1 [.lst false EV (l.map eVal), .ref k 0] σ (.mk : Tg (K, Kp)) := by
  have c := value_Row l hok
  have e : rowR l = (rowB l, 0) := by unfold rowR; rw [if_pos hr]
  rw [e, hx] at c
  simp only [eVals] at c
  refine of_entry_text_1 (by simp) ?_
  unfold b_entry_text_1 WpR
  intro Q hQr hQn hQp
  repeat' first | simp (disch := omega) only [go_sem, hQr, hQn, hQp, wrapK_i64, wrapK_u8, wrapK_u64, Nat.reduceAdd, Nat.reduceBEq, ↓reduceIte, hσ] | refine go_ ?_ | refine cf_ c ?_ | refine br_ (fun hw => ?_) (fun hw => ?_) <;> try omega | fail
  exact hk
end
theorem plain_row {l : List Val} (h : plainV l = true) : l.all rightV = true ∧ (rowB l).length ≤ 1000 := by
  obtain ⟨h1, h2⟩ := plainV_all h
  exact ⟨List.all_eq_true.2 h2, rowB_len (by omega) h2⟩
set_option maxHeartbeats 4000000 in
theorem entry_text (e : Ent) (ok : okEnt e) (h : rightE e = true) : CallF Tryz.prog n_entry_text [eEnt e] (.str (textE e)) := by
  obtain ⟨z1, z2, z3, z4, z5, z6, z7⟩ := rightE_all h
  obtain ⟨o1, o2, o3, o4, o5, o6, o7⟩ := ok
  have hl := rise_len z4
  have hn16 := nameS_16 z1
  have c1 := octet_Text e.table (by omega)
  have c2 := octet_Num e.ver o2
  have c3 := octet_Num e.err o4
  have c4 := octet_Num e.rules.length ⟨by omega, by omega⟩
  have c5 := octet_Num e.rows.length ⟨by omega, by omega⟩
  have l1 := textB_len e.table
  have l2 := numB_len e.ver
  have l3 := numB_len e.err
  have l4 := numB_len e.rules.length
  have l5 := numB_len e.rows.length
  have p1 := plain_row z6
  obtain ⟨E, hE⟩ : ∃ E, textE e = E := ⟨_, rfl⟩
  rw [hE]
  unfold textE at hE
  obtain ⟨A, B, C, D, F, G⟩ := e
  dsimp only at *
  obtain ⟨xc, hxc⟩ : ∃ x, rowB C = x := ⟨_, rfl⟩
  rw [hxc] at hE p1
  generalize textB A = xa at *
  generalize numB B = xb at *
  generalize numB D = xd at *
  generalize numB F.length = xf at *
  generalize numB G.length = xg at *
  have a1 := max_of (a := xa.length) (b := xb.length) (by omega)
  have a2 := max_of (a := (xa ++ xb).length) (b := xc.length) (by rw [List.length_append]; omega)
  have a3 := max_of (a := xd.length) (b := xf.length) (by omega)
  have a4 := max_of (a := (xa ++ xb ++ xc).length) (b := (xd ++ xf).length) (by simp only [List.length_append]; omega)
  simp only [List.length_append] at a2 a4
  obtain ⟨X, hX⟩ : ∃ x, xa ++ xb ++ xc ++ (xd ++ xf) = x := ⟨_, rfl⟩
  have lX := congrArg List.length hX
  simp only [List.length_append] at lX
  rw [hX] at hE
  simp only [eInts, eVals, eRows, eEnt, cEnt] at c1 c2 c3 c4 c5 ⊢
  refine CallF.of_nil (of_entry_text (by simp) ?_) (by simp)
  unfold b_entry_text WpR
  intro Q hQr hQn hQp
  repeat' first | simp (disch := omega) only [go_sem, hQr, hQn, hQp, wrapK_i64, wrapK_u8, wrapK_u64, Nat.reduceAdd, Nat.reduceBEq, ↓reduceIte, hX] | refine go_ ?_ | refine cf_ c1 ?_ | refine cf_ c2 ?_ | refine cf_ c3 ?_ | refine cf_ c4 ?_ | with_reducible refine entry_text_1 o3 p1.1 hxc rfl (by simp only [List.length_append]; exact a2) ?_ | refine br_ (fun hw => ?_) (fun hw => ?_) <;> try omega | fail
  with_reducible refine loop_i [6, 37, 38, 39, 40, 41, 42, 43, 44, 45] (fun q : Nat => [(37, I q)]) (fun q => [.cells [.str A, I B, .lst false EV (C.map eVal), I D, .lst false E1 (F.map eInt), .lst false E1 (G.map eVals)], .cells [.str (X ++ (F.take q).flatMap numB)]]) (fun q => q ≤ F.length ∧ ((F.take q).flatMap numB).length ≤ q * 10) (fun q => F.length - q) (0) ?_ ?_ ?_ ?_
  · simp
  · simp only [List.take_zero, List.flatMap_nil, List.append_nil]
  · exact at_
  rintro i r ⟨g1, g2⟩
  try dsimp only at g1 g2
  by_cases hi : i < F.length
  · have hn := o5.2 _ (getD_mem hi)
    have hsn := fm_snoc numB hi X
    obtain ⟨n, hne⟩ : ∃ n, F.getD i default = n := ⟨_, rfl⟩
    rw [hne] at hn hsn
    have c6 := octet_Num n hn
    have l6 := numB_len n
    have hsl := congrArg List.length hsn
    obtain ⟨y, hy⟩ : ∃ y, X ++ (F.take i).flatMap numB = y := ⟨_, rfl⟩
    have hyl := congrArg List.length hy
    simp only [List.length_append] at hsl hyl
    rw [hy] at hsn
    have hadd := max_of (a := y.length) (b := (numB n).length) (by omega)
    repeat' first | simp (disch := omega) only [go_sem, hQr, hQn, hQp, wrapK_i64, wrapK_u8, wrapK_u64, Nat.reduceAdd, Nat.reduceBEq, ↓reduceIte, hne, hy] | refine go_ ?_ | refine cf_ c6 ?_ | refine br_ (fun hw => ?_) (fun hw => ?_) <;> try omega | fail
    refine ⟨i + 1, ?_, ?_, ?_, ou_, at_⟩
    · exact ⟨by omega, by omega⟩
    · dsimp only; omega
    · dsimp only; rw [hsn]
  · have ht : F.take i = F := List.take_of_length_le (by omega)
    rw [ht] at g2
    obtain ⟨Y, hY⟩ : ∃ y, X ++ F.flatMap numB = y := ⟨_, rfl⟩
    have lY := congrArg List.length hY
    simp only [List.length_append] at lY
    have a5 := max_of (a := Y.length) (b := xg.length) (by omega)
    rw [hY] at hE
    obtain ⟨Z, hZ⟩ : ∃ y, Y ++ xg = y := ⟨_, rfl⟩
    have lZ := congrArg List.length hZ
    simp only [List.length_append] at lZ
    rw [hZ] at hE
    repeat' first | simp (disch := omega) only [go_sem, hQr, hQn, hQp, wrapK_i64, wrapK_u8, wrapK_u64, Nat.reduceAdd, Nat.reduceBEq, ↓reduceIte, ht, hY, hZ] | refine go_ ?_ | refine cf_ c5 ?_ | refine br_ (fun hw => ?_) (fun hw => ?_) <;> try omega | fail
    with_reducible refine loop_i [8, 57, 58, 59, 60, 61, 62, 63, 64] (fun q : Nat => [(57, I q)]) (fun q => [.cells [.str A, I B, .lst false EV (C.map eVal), I D, .lst false E1 (F.map eInt), .lst false E1 (G.map eVals)], .cells [.str (Z ++ (G.take q).flatMap rowB)]]) (fun q => q ≤ G.length ∧ ((G.take q).flatMap rowB).length ≤ q * 1000) (fun q => G.length - q) (0) ?_ ?_ ?_ ?_
    · simp
    · simp only [List.take_zero, List.flatMap_nil, List.append_nil]
    · exact at_
    rintro i' r' ⟨f1, f2⟩
    try dsimp only at f1 f2
    by_cases hi' : i' < G.length
    · have hv := o7 _ (getD_mem hi')
      have hpl := plain_row (z7 _ (getD_mem hi'))
      have hsn := fm_snoc rowB hi' Z
      obtain ⟨n, hne⟩ : ∃ n, G.getD i' default = n := ⟨_, rfl⟩
      rw [hne] at hv hsn hpl
      obtain ⟨xr, hxr⟩ : ∃ x, rowB n = x := ⟨_, rfl⟩
      have hsl := congrArg List.length hsn
      obtain ⟨y, hy⟩ : ∃ y, Z ++ (G.take i').flatMap rowB = y := ⟨_, rfl⟩
      have hyl := congrArg List.length hy
      simp only [List.length_append] at hsl hyl
      rw [hy] at hsn
      rw [hxr] at hsn hsl hpl
      have hadd := max_of (a := y.length) (b := xr.length) (by omega)
      repeat' first | simp (disch := omega) only [go_sem, hQr, hQn, hQp, wrapK_i64, wrapK_u8, wrapK_u64, Nat.reduceAdd, Nat.reduceBEq, ↓reduceIte, hne, hy] | refine go_ ?_ | with_reducible refine entry_text_1 hv hpl.1 hxr rfl hadd ?_ | refine br_ (fun hw => ?_) (fun hw => ?_) <;> try omega | fail
      refine ⟨i' + 1, ?_, ?_, ?_, ou_, at_⟩
      · exact ⟨by omega, by omega⟩
      · dsimp only; omega
      · dsimp only; rw [hsn]
    · have ht' : G.take i' = G := List.take_of_length_le (by omega)
      repeat' first | simp (disch := omega) only [go_sem, hQr, hQn, hQp, wrapK_i64, wrapK_u8, wrapK_u64, Nat.reduceAdd, Nat.reduceBEq, ↓reduceIte, ht'] | refine go_ ?_ | refine br_ (fun hw => ?_) (fun hw => ?_) <;> try omega | fail
      exact leafE (by rw [← hE]) rfl
end Go.Proofs.YtdohdkdejmhgnaaGreatDoor
namespace Go.Proofs.YtdohdkdejmhgnaaGreatDoor
open Go.AM
set_option maxRecDepth 4000
theorem entry_Check (e : Ent) (ok : okEnt e) : CallF Tryz.prog n_entry_Check [eEnt e] (I (checkE e)) := by
  have c1 := entry_right e ok
  have c2 := fun h => entry_text e ok h
  unfold checkE
  generalize rightE e = b at *
  cases b with
  | false =>
    simp only [eEnt, cEnt, eInts, eVals, eRows] at c1 ⊢
    refine CallF.of_nil (of_entry_Check (by simp) ?_) (by simp)
    unfold b_entry_Check WpR
    intro Q hQr hQn hQp
    repeat' first | refine go_ ?_ | refine cf_ c1 ?_ | refine br_ (fun hw => ?_) (fun hw => ?_) <;> try omega | fail
    all_goals first | exact ab_ | exact leafE rfl rfl
  | true =>
    have c2 := c2 rfl
    generalize textE e = t at *
    rw [if_neg (by simp)]
    simp only [eEnt, cEnt, eInts, eVals, eRows] at c1 c2 ⊢
    refine CallF.of_nil (of_entry_Check (by simp) ?_) (by simp)
    unfold b_entry_Check WpR
    intro Q hQr hQn hQp
    repeat' first | refine go_ ?_ | refine cf_ c1 ?_ | refine cf_ c2 ?_ | refine br_ (fun hw => ?_) (fun hw => ?_) <;> try omega | fail
    · exact leafE (by rw [if_pos (by omega)]) rfl
    · exact leafE (by rw [if_neg (by omega)]) rfl
def eBE (p : Str × Int) : AV := .tup [.str p.1, I p.2]
theorem entry_Bytes (e : Ent) (ok : okEnt e) : CallF Tryz.prog n_entry_Bytes [eEnt e] (eBE (bytesE e)) := by
  have c1 := entry_Check e ok
  have hz := @checkE_zero e
  have c2 := fun h => entry_text e ok h
  unfold bytesE
  generalize checkE e = k at *
  by_cases h0 : k ≠ 0
  · rw [if_pos h0]
    simp only [eBE, eEnt, cEnt, eInts, eVals, eRows] at c1 ⊢
    refine CallF.of_nil (of_entry_Bytes (by simp) ?_) (by simp)
    unfold b_entry_Bytes WpR
    intro Q hQr hQn hQp
    repeat' first | refine go_ ?_ | refine cf_ c1 ?_ | refine br_ (fun hw => ?_) (fun hw => ?_) <;> try omega | fail
    all_goals first | exact ab_ | exact leafNE rfl rfl
  rw [if_neg h0]
  obtain rfl : k = 0 := by omega
  have c2 := c2 (hz rfl).1
  generalize textE e = t at *
  simp only [eBE, eEnt, cEnt, eInts, eVals, eRows] at c1 c2 ⊢
  refine CallF.of_nil (of_entry_Bytes (by simp) ?_) (by simp)
  unfold b_entry_Bytes WpR
  intro Q hQr hQn hQp
  repeat' first | refine go_ ?_ | refine cf_ c1 ?_ | refine cf_ c2 ?_ | refine br_ (fun hw => ?_) (fun hw => ?_) <;> try omega | fail
  all_goals first | exact ab_ | exact leafNE rfl rfl
end Go.Proofs.YtdohdkdejmhgnaaGreatDoor
namespace Go.Proofs
open Go.Shelf
def Tryz.lays106_ren : Go.Shelf.Ren := ⟨fun | 106 => 145 | 213 => 228 | 265 => 312 | n => n, fun | 9 => 9 | 3 => 3 | n => n, fun | n => n⟩
theorem Tryz.lays106 : Go.Proofs.Lays.n106 Tryz.prog Tryz.lays106_ren := {
  mixed := by kernel_rfl
  f106 := Tryz.func145.trans (congrArg some (by kernel_rfl))
  f213 := Tryz.func228.trans (congrArg some (by kernel_rfl))
  f265 := Tryz.func312.trans (congrArg some (by kernel_rfl))
  t3 := Tryz.underlying3
  a3 := Tryz.isAgg3
  z3 := Tryz.sizeOf3
  v3 := Tryz.zeroValue3
  t9 := Tryz.underlying9
  a9 := Tryz.isAgg9
  z9 := Tryz.sizeOf9
  v9 := Tryz.zeroValue9 }
open Go.RowKit in
theorem Tryz.strings_Compare (a b : ByteArray) (w : World) :
    Calls Tryz.prog 145 #[.string a, .string b] w fun e w' => e = .returned (.int .i64 (Lib.compareBytes a.data.toList b.data.toList)) ∧ w' = w := Any.strings_Compare Tryz.lays106 a b w
def Tryz.lays105_ren : Go.Shelf.Ren := ⟨fun | 105 => 75 | 212 => 147 | 99 => 148 | 165 => 149 | 166 => 150 | 170 => 151 | 169 => 152 | 263 => 229 | 264 => 230 | 206 => 231 | 240 => 232 | 241 => 233 | 276 => 313 | 277 => 314 | n => n, fun | 9 => 9 | 3 => 3 | 4 => 4 | 20 => 20 | 0 => 0 | 46 => 231 | 109 => 263 | 5 => 5 | 72 => 268 | 76 => 272 | 51 => 353 | 146 => 354 | 53 => 228 | 148 => 356 | 70 => 266 | 37 => 210 | 75 => 271 | 127 => 358 | 164 => 421 | 80 => 207 | n => n, fun | n => n⟩
theorem Tryz.lays105 : Go.Proofs.Lays.n105 Tryz.prog Tryz.lays105_ren := {
  mixed := by kernel_rfl
  f99 := Tryz.func148.trans (congrArg some (by kernel_rfl))
  f105 := Tryz.func75.trans (congrArg some (by kernel_rfl))
  f165 := Tryz.func149.trans (congrArg some (by kernel_rfl))
  f166 := Tryz.func150.trans (congrArg some (by kernel_rfl))
  f169 := Tryz.func152.trans (congrArg some (by kernel_rfl))
  f170 := Tryz.func151.trans (congrArg some (by kernel_rfl))
  f206 := Tryz.func231.trans (congrArg some (by kernel_rfl))
  f212 := Tryz.func147.trans (congrArg some (by kernel_rfl))
  f240 := Tryz.func232.trans (congrArg some (by kernel_rfl))
  f241 := Tryz.func233.trans (congrArg some (by kernel_rfl))
  f263 := Tryz.func229.trans (congrArg some (by kernel_rfl))
  f264 := Tryz.func230.trans (congrArg some (by kernel_rfl))
  f276 := Tryz.func313.trans (congrArg some (by kernel_rfl))
  f277 := Tryz.func314.trans (congrArg some (by kernel_rfl))
  t0 := Tryz.underlying0
  a0 := Tryz.isAgg0
  z0 := Tryz.sizeOf0
  v0 := Tryz.zeroValue0
  t3 := Tryz.underlying3
  a3 := Tryz.isAgg3
  z3 := Tryz.sizeOf3
  v3 := Tryz.zeroValue3
  t4 := Tryz.underlying4
  a4 := Tryz.isAgg4
  z4 := Tryz.sizeOf4
  v4 := Tryz.zeroValue4
  t5 := Tryz.underlying5
  a5 := Tryz.isAgg5
  z5 := Tryz.sizeOf5
  v5 := Tryz.zeroValue5
  t9 := Tryz.underlying9
  a9 := Tryz.isAgg9
  z9 := Tryz.sizeOf9
  v9 := Tryz.zeroValue9
  t20 := Tryz.underlying20
  a20 := Tryz.isAgg20
  z20 := Tryz.sizeOf20
  v20 := Tryz.zeroValue20
  t37 := Tryz.underlying210
  a37 := Tryz.isAgg210
  z37 := Tryz.sizeOf210
  v37 := Tryz.zeroValue210
  t46 := Tryz.underlying231
  a46 := Tryz.isAgg231
  z46 := Tryz.sizeOf231
  v46 := Tryz.zeroValue231
  t51 := Tryz.underlying353
  a51 := Tryz.isAgg353
  z51 := Tryz.sizeOf353
  v51 := Tryz.zeroValue353
  t53 := Tryz.underlying228
  a53 := Tryz.isAgg228
  z53 := Tryz.sizeOf228
  v53 := Tryz.zeroValue228
  t70 := Tryz.underlying266
  a70 := Tryz.isAgg266
  z70 := Tryz.sizeOf266
  v70 := Tryz.zeroValue266
  t72 := Tryz.underlying268
  a72 := Tryz.isAgg268
  z72 := Tryz.sizeOf268
  v72 := Tryz.zeroValue268
  t75 := Tryz.underlying271
  a75 := Tryz.isAgg271
  z75 := Tryz.sizeOf271
  v75 := Tryz.zeroValue271
  t76 := Tryz.underlying272
  a76 := Tryz.isAgg272
  z76 := Tryz.sizeOf272
  v76 := Tryz.zeroValue272
  t109 := Tryz.underlying263
  a109 := Tryz.isAgg263
  z109 := Tryz.sizeOf263
  v109 := Tryz.zeroValue263
  t127 := Tryz.underlying358
  a127 := Tryz.isAgg358
  z127 := Tryz.sizeOf358
  v127 := Tryz.zeroValue358
  t146 := Tryz.underlying354
  a146 := Tryz.isAgg354
  z146 := Tryz.sizeOf354
  v146 := Tryz.zeroValue354
  t148 := Tryz.underlying356
  a148 := Tryz.isAgg356
  z148 := Tryz.sizeOf356
  v148 := Tryz.zeroValue356
  t164 := Tryz.underlying421
  a164 := Tryz.isAgg421
  z164 := Tryz.sizeOf421
  v164 := Tryz.zeroValue421 }
theorem Tryz.Builder_Extra_105 : Builder.Extra Tryz.prog Tryz.lays105_ren := {
  sizeBuilder := by kernel_rfl
  liesBuilder := by kernel_rfl
  t5 := Tryz.underlying5
  a5 := Tryz.isAgg5
  z5 := Tryz.sizeOf5
  v5 := Tryz.zeroValue5
  infoByte := by kernel_rfl
  cellsByte := by kernel_rfl
  sizeByte := by kernel_rfl
  neB5 := by decide }
open Go.RowKit Go.Lib in
theorem Tryz.strings_Repeat (s : ByteArray) (c : Nat) (w : World) (hc : c ≤ 9223372036854775807) (hlen : s.size * c ≤ 140737488355328) :
    Calls Tryz.prog 75 #[.string s, .int .i64 c] w fun e w' => e = .returned (.string ⟨(Lib.repeatL s.data.toList c).toArray⟩) ∧ Below w.heap.size w w' := Any.strings_Repeat Tryz.lays105 Tryz.Builder_Extra_105 s c w hc hlen
end Go.Proofs
