/- Part of a proof: see Root. -/
import Derived.Test.YthkhdedadacakaaGreatDoorY18
set_option linter.unnecessarySimpa false
set_option linter.unusedSimpArgs false
set_option linter.unusedVariables false
namespace Go.Proofs.YthkhdedadacakaaGreatDoor
open Go.AM
set_option maxRecDepth 4000
theorem slices_IndexFunc_Column (fn : FuncId) (cap : List AV) (hcap : AV.purL cap = true) (p : Col → Bool) (l : List Col) (h : ∀ k, k < l.length → CallF Tryz.prog fn (eCol (l.getD k default) :: cap) (.bool (p (l.getD k default)))) (hl : l.length ≤ 2 ^ 62) :
    CallF Tryz.prog n_slices_IndexFunc_Column [eCols l, .fn (.func fn) [] cap] (I (idxF p l)) := by
  refine CallF.of_nil (of_slices_IndexFunc_Column (by simp) ?_) (by simp [AV.pur, AV.purL, hcap, pur_eCols])
  unfold b_slices_IndexFunc_Column WpR
  intro Q hQr hQn hQp
  repeat' first | refine go_ ?_ | refine br_ (fun hw => ?_) (fun hw => ?_) <;> try omega | fail
  with_reducible refine loop_i [4, 5, 8, 9, 10, 11, 12, 13, 14, 15, 16, 17, 18] (fun i : Nat => [(8, I i)]) (fun _ => []) (fun i => i ≤ l.length ∧ ∀ k, k < i → p (l.getD k default) = false) (fun i => l.length - i) (0) ?_ ?_ ?_ ?_
  · simp
  · rfl
  · exact at_
  · rintro i r ⟨hi, hp⟩
    by_cases hin : i < l.length
    · have hx := h i hin
      simp only [eCol, eVals] at hx
      repeat' first | refine go_ ?_ | refine cf_ hx ?_ | refine br_ (fun hw => ?_) (fun hw => ?_) <;> try omega | fail
      · refine leafE ?_ rfl
        refine congrArg I ?_
        exact (idxF_at hin hp hw).symm
      · refine ⟨i + 1, ?_, ?_, by first | rfl | (simp [go_sem]; done), ou_, at_⟩ <;> (try dsimp only)
        · exact ⟨by omega, before_succ hp hw⟩
        · omega
    · repeat' first | refine go_ ?_ | refine br_ (fun hw => ?_) (fun hw => ?_) <;> try omega | fail
      refine leafE ?_ rfl
      refine congrArg I ?_
      exact (idxF_none fun k hk => hp k (by omega)).symm
def atS (l : List Col) (s : Str) : Int := idxF (fun c => c.name == s) l
theorem typing_at_1 (c : Col) (s : Str) : CallF Tryz.prog n_typing_at_1 [eCol c, .eref E1 (.str s) 0] (.bool (c.name == s)) := by
  refine CallF.of_nil (of_typing_at_1 (by simp) ?_) (by simp [AV.pur, AV.purL, pur_eCol])
  unfold b_typing_at_1 WpR
  intro Q hQr hQn hQp
  repeat' first | refine go_ ?_ | refine br_ (fun hw => ?_) (fun hw => ?_) <;> try omega | fail
  all_goals exact leafE rfl rfl
theorem typing_at (l : List Col) (s : Str) (hl : l.length ≤ 2 ^ 60) : CallF Tryz.prog n_typing_at [eCols l, .str s] (I (atS l s)) := by
  have hc := slices_IndexFunc_Column n_typing_at_1 [.eref E1 (.str s) 0] rfl (fun c => c.name == s) l (fun k _ => typing_at_1 _ s) (by omega)
  simp only [eCols] at hc
  refine CallF.of_nil (of_typing_at (by simp) ?_) (by simp [AV.pur, AV.purL, pur_eCols])
  unfold b_typing_at WpR
  intro Q hQr hQn hQp
  repeat' first | refine go_ ?_ | refine cv_ hc ?_ | refine br_ (fun hw => ?_) (fun hw => ?_) <;> try omega | fail
  all_goals exact leafE rfl rfl
theorem ref15_At (l : List Col) (s : Str) (hl : l.length ≤ 2 ^ 60) : CallF Tryz.prog n_ref15_At [eCols l, .str s] (I (atS l s)) := by
  refine CallF.of_nil (of_ref15_At (by simp) ?_) (by simp [AV.pur, AV.purL, pur_eCols])
  unfold b_ref15_At WpR
  intro Q hQr hQn hQp
  repeat' first | refine go_ ?_ | refine br_ (fun hw => ?_) (fun hw => ?_) <;> try omega | fail
  with_reducible refine loop_i [4, 5, 6, 7, 8, 9, 10, 11, 12, 13, 14, 15, 16, 17, 18, 19] (fun i : Nat => [(5, I i)]) (fun _ => []) (fun i => i ≤ l.length ∧ ∀ k, k < i → ((l.getD k default).name == s) = false) (fun i => l.length - i) (0) ?_ ?_ ?_ ?_
  · simp
  · rfl
  · exact at_
  rintro i r ⟨hi, hp⟩
  by_cases hin : i < l.length
  · repeat' first | refine go_ ?_ | refine br_ (fun hw => ?_) (fun hw => ?_) <;> try omega | fail
    · refine leafE ?_ rfl
      refine congrArg I ?_
      exact (idxF_at (p := fun c : Col => c.name == s) hin hp (by simpa using hw)).symm
    · refine ⟨i + 1, ?_, ?_, by first | rfl | (simp [go_sem]; done), ou_, at_⟩ <;> (try dsimp only)
      · exact ⟨by omega, before_succ hp (by simpa using hw)⟩
      · omega
  · repeat' first | refine go_ ?_ | refine br_ (fun hw => ?_) (fun hw => ?_) <;> try omega | fail
    refine leafE ?_ rfl
    refine congrArg I ?_
    exact (idxF_none (p := fun c : Col => c.name == s) fun k hk => hp k (by omega)).symm
theorem countS_cases {op : Int} {n : Nat} (h : (n : Int) = countS op) (h1 : op ≠ 1) (h2 : op ≠ 2) : (op = 3 ∧ n = 1) ∨ (4 ≤ op ∧ op ≤ 15 ∧ n = 2) ∨ (op = 16 ∧ n = 3) := by
  unfold countS at h
  rw [if_neg (by omega)] at h
  by_cases h3 : op = 3
  · rw [if_pos h3] at h; omega
  rw [if_neg h3] at h
  by_cases h16 : op = 16
  · rw [if_pos h16] at h; omega
  rw [if_neg h16] at h
  by_cases hr : 4 ≤ op ∧ op ≤ 15
  · rw [if_pos (findB_some op hr.1 hr.2).2] at h; omega
  · rw [findB_none op (by omega)] at h
    rw [if_neg (by decide)] at h; omega
theorem typing_rule_ok (op : Int) (ks : List Int) (h : (ks.length : Int) = countS op) (h1 : op ≠ 1) (h2 : op ≠ 2) : CallF Tryz.prog n_typing_rule [I op, .lst false E1 (ks.map eI)] (.tup [I (typS op ks).1, .bool (typS op ks).2]) := by
  rcases countS_cases h h1 h2 with ⟨rfl, hn⟩ | ⟨h4, h15, hn⟩ | ⟨rfl, hn⟩
  · match ks, hn with
    | [a], _ => exact typing_rule1 a
  · match ks, hn with
    | [a, b], _ => exact typing_rule2 op a b h4 h15
  · match ks, hn with
    | [a, b, c], _ => exact typing_rule3 a b c
theorem ref15_of_ok (op : Int) (ks : List Int) (h : (ks.length : Int) = countS op) (h1 : op ≠ 1) (h2 : op ≠ 2) : CallF Tryz.prog n_ref15_of [I op, .lst false E1 (ks.map eI)] (.tup [I (typR op ks).1, I (typR op ks).2]) := by
  rcases countS_cases h h1 h2 with ⟨rfl, hn⟩ | ⟨h4, h15, hn⟩ | ⟨rfl, hn⟩
  · match ks, hn with
    | [a], _ => exact ref15_of1 a
  · match ks, hn with
    | [a, b], _ => exact ref15_of2 op a b h4 h15
  · match ks, hn with
    | [a, b, c], _ => exact ref15_of3 a b c
mutual
def kindX (cs : List Col) : Expr → Int × Int
  | .mk op v s l =>
    if op = 1 then (v.kind, 0)
    else if op = 2 then (if atS cs s < 0 then (0, 13) else ((cs.getD (atS cs s).toNat default).kind, 0))
    else if (kindL cs l).2 = 0 then typR op (kindL cs l).1 else (0, (kindL cs l).2)
def kindL (cs : List Col) : List Expr → List Int × Int
  | [] => ([], 0)
  | x :: r =>
    if (kindX cs x).2 ≠ 0 then ([], (kindX cs x).2)
    else if (kindL cs r).2 ≠ 0 then ([], (kindL cs r).2)
    else ((kindX cs x).1 :: (kindL cs r).1, 0)
end
theorem kindL_ok {cs : List Col} : ∀ {l : List Expr} {ks : List Int}, ks.length = l.length → (∀ k, k < l.length → kindX cs (l.getD k default) = (ks.getD k 0, 0)) → kindL cs l = (ks, 0)
  | [], [], _, _ => by simp only [kindL]
  | x :: r, k :: ks, hl, h => by
    have h0 := h 0 (by simp)
    simp only [List.getD_cons_zero] at h0
    have hr := kindL_ok (l := r) (ks := ks) (by simpa using hl) (fun i hi => by simpa using h (i + 1) (by simpa using hi))
    simp [kindL, h0, hr]
theorem kindL_err {cs : List Col} : ∀ {l : List Expr} {i : Nat} {e : Int}, i < l.length → (∀ k, k < i → (kindX cs (l.getD k default)).2 = 0) → (kindX cs (l.getD i default)).2 = e → e ≠ 0 → kindL cs l = ([], e)
  | x :: r, 0, e, _, _, he, hne => by
    simp only [List.getD_cons_zero] at he
    simp [kindL, he, hne]
  | x :: r, i + 1, e, hi, h, he, hne => by
    have h0 := h 0 (by omega)
    simp only [List.getD_cons_zero] at h0
    have hr := kindL_err (l := r) (i := i) (e := e) (by simpa using hi) (fun k hk => by simpa using h (k + 1) (by omega)) (by simpa using he) hne
    simp [kindL, h0, hr, hne]
theorem idxF_lt {α : Type} [Inhabited α] (p : α → Bool) (l : List α) : idxF p l < l.length := by
  rcases find_idx p l with ⟨h1, h2⟩ | ⟨i, h1, h2, h3⟩
  · rw [h1]; omega
  · rw [h2]; omega
theorem typing_kind (cs : List Col) (hcs : cs.length ≤ 2 ^ 60) (x : Expr) : rightX x = true → szS x ≤ 2 ^ 60 → CallF Tryz.prog n_typing_kind [eExpr x, eCols cs] (.tup [I (kindX cs x).1, I (kindX cs x).2]) := by
  induction x using Expr.ind with
  | h op v s l ih =>
    intro hr hz
    simp only [szS] at hz
    have hl := len_szL l
    have hcnt : (l.length : Int) = countS op := by
      simp only [rightX, Bool.and_eq_true, decide_eq_true_eq] at hr; exact hr.1
    obtain ⟨vk, vn, vs⟩ := v
    have hA := typing_at cs s hcs
    have hAl := idxF_lt (fun c : Col => c.name == s) cs
    change atS cs s < cs.length at hAl
    simp only [eCols] at hA ⊢
    by_cases h1 : op = 1
    · have e : kindX cs (.mk op ⟨vk, vn, vs⟩ s l) = (vk, 0) := by simp only [kindX, if_pos h1]
      rw [e]
      refine CallF.of_nil (of_typing_kind (by simp) ?_) (by simp)
      unfold b_typing_kind WpR
      intro Q hQr hQn hQp
      repeat' first | refine go_ ?_ | refine br_ (fun hw => ?_) (fun hw => ?_) <;> try omega | fail
      exact leafNE rfl rfl
    by_cases h2 : op = 2
    · have e : kindX cs (.mk op ⟨vk, vn, vs⟩ s l) = if atS cs s < 0 then (0, 13) else ((cs.getD (atS cs s).toNat default).kind, 0) := by simp only [kindX, if_neg h1, if_pos h2]
      rw [e]
      generalize atS cs s = i at *
      by_cases hi : i < 0
      · rw [if_pos hi]
        refine CallF.of_nil (of_typing_kind (by simp) ?_) (by simp)
        unfold b_typing_kind WpR
        intro Q hQr hQn hQp
        repeat' first | refine go_ ?_ | refine cf_ hA ?_ | refine br_ (fun hw => ?_) (fun hw => ?_) <;> try omega | fail
        exact leafNE rfl rfl
      · rw [if_neg hi]
        obtain ⟨n, rfl⟩ : ∃ n : Nat, i = n := ⟨i.toNat, by omega⟩
        have hn : n < cs.length := by omega
        refine CallF.of_nil (of_typing_kind (by simp) ?_) (by simp)
        unfold b_typing_kind WpR
        intro Q hQr hQn hQp
        repeat' first | refine go_ ?_ | refine cf_ hA ?_ | refine br_ (fun hw => ?_) (fun hw => ?_) <;> try omega | fail
        exact leafNE rfl rfl
    have hrl : rightL l = true := by
      simp only [rightX, if_neg h1, if_neg h2, Bool.and_eq_true] at hr; exact hr.2.2
    have hrx : ∀ k, k < l.length → rightX (l.getD k default) = true := fun k hk => by
      rw [rightL_any] at hrl
      simp only [Bool.not_eq_true', List.any_eq_false, Bool.not_eq_true', Bool.not_eq_false'] at hrl
      simpa using hrl _ (getD_mem hk)
    have hk : ∀ k, k < l.length → _ := fun k h => ih _ (getD_mem h) (hrx k h) (by have := mem_szL (getD_mem h); omega)
    have e : kindX cs (.mk op ⟨vk, vn, vs⟩ s l) = if (kindL cs l).2 = 0 then typR op (kindL cs l).1 else (0, (kindL cs l).2) := by simp only [kindX, if_neg h1, if_neg h2]
    rw [e]
    have hl3 : l.length ≤ 3 := by rcases countS_cases hcnt h1 h2 with h | h | h <;> omega
    have hrule := fun ks h => typing_rule_ok op ks h h1 h2
    clear hA hAl e hr hrl
    simp only [eCols] at hk
    refine CallF.of_nil (of_typing_kind (by simp) ?_) (by simp)
    unfold b_typing_kind WpR
    intro Q hQr hQn hQp
    repeat' first | refine go_ ?_ | refine br_ (fun hw => ?_) (fun hw => ?_) <;> try omega | fail
    with_reducible refine loop_i [4, 5, 7, 9, 10, 11, 37, 38, 39, 40, 41, 42, 43, 44, 45, 46, 47, 48, 49, 50, 51, 52, 53, 54] (fun q : Nat × List Int × List AObj => [(37, I q.1), (7, .own E1 1 q.1 0 q.1)]) (fun q => .cells [I op, I vk, I vn, .str vs, .str s, .lst false EX (l.map eExpr)] :: .vec E1 (q.2.1.map eI) :: q.2.2) (fun q => q.1 ≤ l.length ∧ q.2.1.length = q.1 ∧ ∀ k, k < q.1 → kindX cs (l.getD k default) = (q.2.1.getD k 0, 0)) (fun q => l.length - q.1) (0, [], []) ?_ ?_ ?_ ?_
    · simp
    · rfl
    · exact at_
    rintro ⟨i, ks, τ⟩ r ⟨a1, a2, a3⟩
    dsimp only at a1 a2 a3
    by_cases hi : i < l.length
    · have hx := hk i hi
      generalize hK : kindX cs (l.getD i default) = K at *
      obtain ⟨kk, ke⟩ := K
      rw [eExpr_eq] at hx
      repeat' first | simp (disch := omega) only [go_sem, hQr, hQn, hQp, wrapK_i64, wrapK_u8, wrapK_u64, Nat.reduceAdd, Nat.reduceBEq, ↓reduceIte, a2] | refine go_ ?_ | refine cf_ hx ?_ | refine br_ (fun hw => ?_) (fun hw => ?_) <;> try omega | fail
      · have : kindL cs l = ([], ke) := kindL_err hi (fun k h => by rw [a3 k h]) (by rw [hK]) (by assumption)
        rw [this]
        refine leafNE ?_ rfl
        dsimp only
        rw [if_neg (by assumption)]
      · refine ⟨(i + 1, ks ++ [kk], τ ++ [.cells [I (l.getD i default).op, I (l.getD i default).v.kind, I (l.getD i default).v.n, .str (l.getD i default).v.s, .str (l.getD i default).s, .lst false EX ((l.getD i default).l.map eExpr)]]), ?_, ?_, ?_, ou_, at_⟩
        · refine ⟨by dsimp only; omega, by simp [a2], before_succ (fun k hk2 => ?_) ?_⟩
          · rw [a3 k hk2]; simp [List.getD_eq_getElem?_getD, List.getElem?_append_left (show k < ks.length by omega)]
          · rw [hK]
            have : ke = 0 := by assumption
            rw [this, ← a2]; simp [List.getD_eq_getElem?_getD]
        · dsimp only; omega
        · simp [eI]
    · have hie : i = l.length := by omega
      subst hie
      have hkl := kindL_ok a2 a3
      rw [hkl] at hQr hQn
      have hc := hrule ks (by rw [a2]; exact hcnt)
      have hpk : AV.purL (ks.map eI) = true := purL_i ks
      have hlk : (ks.map eI).length = l.length := by simp [a2]
      simp only [if_true] at hQr hQn
      unfold typR at hQr hQn
      clear hkl a3
      generalize typS op ks = R at *
      obtain ⟨rk, rb⟩ := R
      repeat' first | simp (disch := omega) only [go_sem, hQr, hQn, hQp, wrapK_i64, wrapK_u8, wrapK_u64, Nat.reduceAdd, Nat.reduceBEq, ↓reduceIte, a2] | refine go_ ?_ | (with_reducible refine callL_v hc (.cons (View.refl _ rfl) (.cons (View.vec rfl hlk.symm hlk.symm hpk) (.nil _))) rfl ?_) | refine br_ (fun hw => ?_) (fun hw => ?_) <;> try omega | fail
      all_goals (refine leafNE ?_ rfl; simp_all)
theorem ref15_kind (cs : List Col) (hcs : cs.length ≤ 2 ^ 60) (x : Expr) : rightX x = true → szS x ≤ 2 ^ 60 → CallF Tryz.prog n_ref15_kind [eExpr x, eCols cs] (.tup [I (kindX cs x).1, I (kindX cs x).2]) := by
  induction x using Expr.ind with
  | h op v s l ih =>
    intro hr hz
    simp only [szS] at hz
    have hl := len_szL l
    have hcnt : (l.length : Int) = countS op := by
      simp only [rightX, Bool.and_eq_true, decide_eq_true_eq] at hr; exact hr.1
    obtain ⟨vk, vn, vs⟩ := v
    have hA := ref15_At cs s hcs
    have hAl := idxF_lt (fun c : Col => c.name == s) cs
    change atS cs s < cs.length at hAl
    simp only [eCols] at hA ⊢
    by_cases h1 : op = 1
    · have e : kindX cs (.mk op ⟨vk, vn, vs⟩ s l) = (vk, 0) := by simp only [kindX, if_pos h1]
      rw [e]
      refine CallF.of_nil (of_ref15_kind (by simp) ?_) (by simp)
      unfold b_ref15_kind WpR
      intro Q hQr hQn hQp
      repeat' first | refine go_ ?_ | refine br_ (fun hw => ?_) (fun hw => ?_) <;> try omega | fail
      exact leafNE rfl rfl
    by_cases h2 : op = 2
    · have e : kindX cs (.mk op ⟨vk, vn, vs⟩ s l) = if atS cs s < 0 then (0, 13) else ((cs.getD (atS cs s).toNat default).kind, 0) := by simp only [kindX, if_neg h1, if_pos h2]
      rw [e]
      generalize atS cs s = i at *
      by_cases hi : i < 0
      · rw [if_pos hi]
        refine CallF.of_nil (of_ref15_kind (by simp) ?_) (by simp)
        unfold b_ref15_kind WpR
        intro Q hQr hQn hQp
        repeat' first | refine go_ ?_ | refine cf_ hA ?_ | refine br_ (fun hw => ?_) (fun hw => ?_) <;> try omega | fail
        exact leafNE rfl rfl
      · rw [if_neg hi]
        obtain ⟨n, rfl⟩ : ∃ n : Nat, i = n := ⟨i.toNat, by omega⟩
        have hn : n < cs.length := by omega
        refine CallF.of_nil (of_ref15_kind (by simp) ?_) (by simp)
        unfold b_ref15_kind WpR
        intro Q hQr hQn hQp
        repeat' first | refine go_ ?_ | refine cf_ hA ?_ | refine br_ (fun hw => ?_) (fun hw => ?_) <;> try omega | fail
        exact leafNE rfl rfl
    have hrl : rightL l = true := by
      simp only [rightX, if_neg h1, if_neg h2, Bool.and_eq_true] at hr; exact hr.2.2
    have hrx : ∀ k, k < l.length → rightX (l.getD k default) = true := fun k hk => by
      rw [rightL_any] at hrl
      simp only [Bool.not_eq_true', List.any_eq_false, Bool.not_eq_true', Bool.not_eq_false'] at hrl
      simpa using hrl _ (getD_mem hk)
    have hk : ∀ k, k < l.length → _ := fun k h => ih _ (getD_mem h) (hrx k h) (by have := mem_szL (getD_mem h); omega)
    have e : kindX cs (.mk op ⟨vk, vn, vs⟩ s l) = if (kindL cs l).2 = 0 then typR op (kindL cs l).1 else (0, (kindL cs l).2) := by simp only [kindX, if_neg h1, if_neg h2]
    rw [e]
    have hl3 : l.length ≤ 3 := by rcases countS_cases hcnt h1 h2 with h | h | h <;> omega
    have hrule := fun ks h => ref15_of_ok op ks h h1 h2
    clear hA hAl e hr hrl
    simp only [eCols] at hk
    refine CallF.of_nil (of_ref15_kind (by simp) ?_) (by simp)
    unfold b_ref15_kind WpR
    intro Q hQr hQn hQp
    repeat' first | refine go_ ?_ | refine br_ (fun hw => ?_) (fun hw => ?_) <;> try omega | fail
    with_reducible refine loop_i [4, 5, 7, 8, 9, 10, 31, 32, 33, 34, 35, 36, 37, 38, 39, 40, 41, 42, 43, 44, 45, 46, 47, 48, 49, 50, 51, 52, 53, 54] (fun q : Nat × List Int => [(8, I q.1), (7, .own E1 1 q.1 0 q.1)]) (fun q => .cells [I op, I vk, I vn, .str vs, .str s, .lst false EX (l.map eExpr)] :: [.vec E1 (q.2.map eI)]) (fun q => q.1 ≤ l.length ∧ q.2.length = q.1 ∧ ∀ k, k < q.1 → kindX cs (l.getD k default) = (q.2.getD k 0, 0)) (fun q => l.length - q.1) (0, []) ?_ ?_ ?_ ?_
    · simp
    · rfl
    · exact at_
    rintro ⟨i, ks⟩ r ⟨a1, a2, a3⟩
    dsimp only at a1 a2 a3
    by_cases hi : i < l.length
    · have hx := hk i hi
      generalize hK : kindX cs (l.getD i default) = K at *
      obtain ⟨kk, ke⟩ := K
      rw [eExpr_eq] at hx
      repeat' first | simp (disch := omega) only [go_sem, hQr, hQn, hQp, wrapK_i64, wrapK_u8, wrapK_u64, Nat.reduceAdd, Nat.reduceBEq, ↓reduceIte, a2] | refine go_ ?_ | refine cf_ hx ?_ | refine br_ (fun hw => ?_) (fun hw => ?_) <;> try omega | fail
      · have : kindL cs l = ([], ke) := kindL_err hi (fun k h => by rw [a3 k h]) (by rw [hK]) (by assumption)
        rw [this]
        refine leafNE ?_ rfl
        dsimp only
        rw [if_neg (by assumption)]
      · refine ⟨(i + 1, ks ++ [kk]), ?_, ?_, ?_, ou_, at_⟩
        · refine ⟨by dsimp only; omega, by simp [a2], before_succ (fun k hk2 => ?_) ?_⟩
          · rw [a3 k hk2]; simp [List.getD_eq_getElem?_getD, List.getElem?_append_left (show k < ks.length by omega)]
          · rw [hK]
            have : ke = 0 := by assumption
            rw [this, ← a2]; simp [List.getD_eq_getElem?_getD]
        · dsimp only; omega
        · simp [eI]
    · have hie : i = l.length := by omega
      subst hie
      have hkl := kindL_ok a2 a3
      rw [hkl] at hQr hQn
      have hc := hrule ks (by rw [a2]; exact hcnt)
      have hpk : AV.purL (ks.map eI) = true := purL_i ks
      have hlk : (ks.map eI).length = l.length := by simp [a2]
      simp only [if_true] at hQr hQn
      clear hkl a3
      generalize typR op ks = R at *
      obtain ⟨rk, rb⟩ := R
      repeat' first | simp (disch := omega) only [go_sem, hQr, hQn, hQp, wrapK_i64, wrapK_u8, wrapK_u64, Nat.reduceAdd, Nat.reduceBEq, ↓reduceIte, a2] | refine go_ ?_ | (with_reducible refine callL_v hc (.cons (View.refl _ rfl) (.cons (View.vec rfl hlk.symm hlk.symm hpk) (.nil _))) rfl ?_) | refine br_ (fun hw => ?_) (fun hw => ?_) <;> try omega | fail
      all_goals exact leafNE rfl rfl
theorem typing_Kind (cs : List Col) (hcs : cs.length ≤ 2 ^ 60) (x : Expr) (hx : okX x) (hz : szS x ≤ 2 ^ 60) : CallF Tryz.prog n_typing_Kind [eExpr x, eCols cs] (.tup [I (if rightX x then (kindX cs x).1 else 0), I (if rightX x then (kindX cs x).2 else 2)]) := by
  have h1 := syntax_Check x hx hz
  have h2 := typing_kind cs hcs x
  cases hr : rightX x with
  | true =>
    have h2 := h2 hr hz
    rw [hr] at h1
    simp only [errB, if_true] at h1 ⊢
    generalize kindX cs x = K at *
    rw [eExpr_eq] at h1 h2 ⊢
    simp only [eCols] at h2 ⊢
    refine CallF.of_nil (of_typing_Kind (by simp) ?_) (by simp)
    unfold b_typing_Kind WpR
    intro Q hQr hQn hQp
    repeat' first | refine go_ ?_ | refine cf_ h1 ?_ | refine cf_ h2 ?_ | refine br_ (fun hw => ?_) (fun hw => ?_) <;> try omega | fail
    all_goals exact leafNE rfl rfl
  | false =>
    rw [hr] at h1
    simp only [errB, Bool.false_eq_true, if_false] at h1 ⊢
    rw [eExpr_eq] at h1 ⊢
    simp only [eCols]
    refine CallF.of_nil (of_typing_Kind (by simp) ?_) (by simp)
    unfold b_typing_Kind WpR
    intro Q hQr hQn hQp
    repeat' first | refine go_ ?_ | refine cf_ h1 ?_ | refine br_ (fun hw => ?_) (fun hw => ?_) <;> try omega | fail
    all_goals exact leafNE rfl rfl
def colE (l : List Col) (i : Nat) : Int :=
  if nameS (l.getD i default).name = false ∨ atS l (l.getD i default).name ≠ i then 13
  else if (l.getD i default).kind < 1 ∨ 3 < (l.getD i default).kind then 14 else 0
def colsS (l : List Col) : Int := if 6 < l.length then 24 else match (List.range l.length).find? (fun i => colE l i != 0) with
  | some i => colE l i
  | none => 0
theorem range_getD {n k : Nat} (h : k < n) : (List.range n).getD k default = k := by simp [List.getD_eq_getElem?_getD, h]
theorem colsS_at {l : List Col} {i : Nat} {e : Int} (h6 : ¬ 6 < l.length) (hi : i < l.length) (h : ∀ k, k < i → colE l k = 0) (he : colE l i = e) (hne : e ≠ 0) : colsS l = e := by
  have := find_at (p := fun i => colE l i != 0) (l := List.range l.length) (i := i) (by simpa using hi) (fun k hk => by rw [range_getD (by omega)]; simp [h k hk]) (by rw [range_getD hi]; simp [he, hne])
  unfold colsS
  rw [if_neg h6, this, range_getD hi]
  exact he
theorem colsS_non {l : List Col} (h6 : ¬ 6 < l.length) (h : ∀ k, k < l.length → colE l k = 0) : colsS l = 0 := by
  have := find_non (p := fun i => colE l i != 0) (l := List.range l.length) (fun k hk => by rw [List.length_range] at hk; rw [range_getD hk]; simp [h k hk])
  unfold colsS
  rw [if_neg h6, this]
theorem typing_Columns (l : List Col) (hn : ∀ k, k < l.length → (l.getD k default).name.length ≤ 2 ^ 62) : CallF Tryz.prog n_typing_Columns [eCols l] (I (colsS l)) := by
  by_cases h6 : 6 < l.length
  · have e : colsS l = 24 := by unfold colsS; rw [if_pos h6]
    rw [e]
    refine CallF.of_nil (of_typing_Columns (by simp) ?_) (by simp [AV.pur, AV.purL, pur_eCols])
    unfold b_typing_Columns WpR
    intro Q hQr hQn hQp
    repeat' first | refine go_ ?_ | refine br_ (fun hw => ?_) (fun hw => ?_) <;> try omega | fail
    exact leafE rfl rfl
  refine CallF.of_nil (of_typing_Columns (by simp) ?_) (by simp [AV.pur, AV.purL, pur_eCols])
  unfold b_typing_Columns WpR
  intro Q hQr hQn hQp
  repeat' first | refine go_ ?_ | refine br_ (fun hw => ?_) (fun hw => ?_) <;> try omega | fail
  with_reducible refine loop_i [2, 3, 4, 10, 11, 12, 13, 14, 15, 16, 17, 18, 19, 20, 21, 22, 23, 24, 25, 26, 27, 28, 29, 30, 31, 32, 33, 34, 35, 36, 37, 38, 39, 40] (fun q : Nat × List AObj => [(10, I q.1)]) (fun q => q.2) (fun q => q.1 ≤ l.length ∧ ∀ k, k < q.1 → colE l k = 0) (fun q => l.length - q.1) (0, []) ?_ ?_ ?_ ?_
  · simp
  · rfl
  · exact at_
  rintro ⟨i, τ⟩ r ⟨h1, h2⟩
  dsimp only at h1 h2
  by_cases hi : i < l.length
  · have c1 := lex_Name _ (hn i hi)
    have c2 := typing_at l (l.getD i default).name (by omega)
    have hE : colE l i = if nameS (l.getD i default).name = false ∨ atS l (l.getD i default).name ≠ i then 13 else if (l.getD i default).kind < 1 ∨ 3 < (l.getD i default).kind then 14 else 0 := rfl
    obtain ⟨c, hc⟩ : ∃ c, l.getD i default = c := ⟨_, rfl⟩
    rw [hc] at c1 c2 hE
    generalize nameS c.name = nb at *
    generalize atS l c.name = an at *
    simp only [eCols] at c2
    repeat' first | simp (disch := omega) only [go_sem, hQr, hQn, hQp, wrapK_i64, wrapK_u8, wrapK_u64, Nat.reduceAdd, Nat.reduceBEq, ↓reduceIte, hc] | refine go_ ?_ | refine cf_ c1 ?_ | refine cf_ c2 ?_ | refine br_ (fun hw => ?_) (fun hw => ?_) <;> try omega | fail
    all_goals first
      | (refine leafE ?_ rfl
         refine congrArg I ?_
         symm
         refine colsS_at h6 hi h2 ?_ (by decide)
         rw [hE]
         first
           | (rw [if_pos (by simp_all)]; done)
           | (rw [if_neg (by simp_all), if_pos (by omega)]; done))
      | (refine ⟨(i + 1, τ ++ [.cells [.str c.name, I c.kind, .lst false EV (c.order.map eVal)]]), ?_, ?_, by first | rfl | (simp [go_sem]; done), ou_, at_⟩
         · exact ⟨by dsimp only; omega, before_succ h2 (by rw [hE, if_neg (by simp_all), if_neg (by omega)])⟩
         · dsimp only; omega)
  · repeat' first | refine go_ ?_ | refine br_ (fun hw => ?_) (fun hw => ?_) <;> try omega | fail
    refine leafE ?_ rfl
    rw [colsS_non h6 (fun k hk => h2 k (by omega))]
def partX (x : Expr) : Bool := rightX x && decide (deepS x ≤ 12)
theorem cell_part (x : Expr) (hx : okX x) (hz : szS x ≤ 2 ^ 60) : CallF Tryz.prog n_cell_part [eExpr x] (.bool (partX x)) := by
  have h1 := syntax_Check x hx hz
  have h2 := syntax_Deep x hz
  unfold partX
  generalize rightX x = b at *
  rw [eExpr_eq] at h1 h2 ⊢
  refine CallF.of_nil (of_cell_part (by simp) ?_) (by simp)
  unfold b_cell_part WpR
  intro Q hQr hQn hQp
  cases b <;> simp only [errB, if_true, Bool.false_eq_true, if_false] at h1
  · repeat' first | refine go_ ?_ | refine cf_ h1 ?_ | refine cf_ h2 ?_ | refine br_ (fun hw => ?_) (fun hw => ?_) <;> try omega | fail
    all_goals exact leafE rfl rfl
  · repeat' first | refine go_ ?_ | refine cf_ h1 ?_ | refine cf_ h2 ?_ | refine br_ (fun hw => ?_) (fun hw => ?_) <;> try omega | fail
    all_goals (refine leafE ?_ rfl; simp; omega)
theorem slices_EqualFunc_Test (fn : FuncId) (cap : List AV) (hcap : AV.purL cap = true) (p : Test → Test → Bool) (l m : List Test)
    (h : ∀ k, k < l.length → k < m.length → CallF Tryz.prog fn (eTest (l.getD k default) :: eTest (m.getD k default) :: cap) (.bool (p (l.getD k default) (m.getD k default)))) (hl : l.length ≤ 2 ^ 62) (hm : m.length ≤ 2 ^ 62) :
    CallF Tryz.prog n_slices_EqualFunc_Test [eTests l, eTests m, .fn (.func fn) [] cap] (.bool (eqL p l m)) := by
  refine CallF.of_nil (of_slices_EqualFunc_Test (by simp) ?_) (by simp [AV.pur, AV.purL, hcap, pur_eTests])
  unfold b_slices_EqualFunc_Test WpR
  intro Q hQr hQn hQp
  repeat' first | refine go_ ?_ | refine br_ (fun hw => ?_) (fun hw => ?_) <;> try omega | fail
  · refine leafE ?_ rfl
    rw [eqL_len (by omega)]
  have hlm : l.length = m.length := by omega
  with_reducible refine loop_i [6, 7, 8, 9, 17, 18, 19, 20, 21, 22, 23, 24, 25, 26, 27, 28, 29, 30, 31] (fun p : Nat × List AObj => [(17, I p.1)]) (fun p => p.2) (fun q => q.1 ≤ l.length ∧ ∀ k, k < q.1 → p (l.getD k default) (m.getD k default) = true) (fun p => l.length - p.1) (0, []) ?_ ?_ ?_ ?_
  · simp
  · rfl
  · exact at_
  rintro ⟨i, τ⟩ r ⟨h1, h2⟩
  dsimp only at h1 h2
  by_cases hi : i < l.length
  · have hy := h i hi (by omega)
    simp only [eTest, eCol, eRule, eLine, eCell, eExprs, eTests, eVals, eStrs, eCells] at hy
    repeat' first | refine go_ ?_ | refine cf_ hy ?_ | refine br_ (fun hw => ?_) (fun hw => ?_) <;> try omega | fail
    · refine leafE ?_ rfl
      rw [eqL_at hi hw (by omega)]
    · refine ⟨(i + 1, τ ++ [.cells [I (l.getD i default).kind, I (l.getD i default).a.op, I (l.getD i default).a.v.kind, I (l.getD i default).a.v.n, .str (l.getD i default).a.v.s, .str (l.getD i default).a.s, .lst false EX ((l.getD i default).a.l.map eExpr), I (l.getD i default).b.op, I (l.getD i default).b.v.kind, I (l.getD i default).b.v.n, .str (l.getD i default).b.v.s, .str (l.getD i default).b.s, .lst false EX ((l.getD i default).b.l.map eExpr), .bool (l.getD i default).lo, .bool (l.getD i default).hi]] ++ [.cells [I (m.getD i default).kind, I (m.getD i default).a.op, I (m.getD i default).a.v.kind, I (m.getD i default).a.v.n, .str (m.getD i default).a.v.s, .str (m.getD i default).a.s, .lst false EX ((m.getD i default).a.l.map eExpr), I (m.getD i default).b.op, I (m.getD i default).b.v.kind, I (m.getD i default).b.v.n, .str (m.getD i default).b.v.s, .str (m.getD i default).b.s, .lst false EX ((m.getD i default).b.l.map eExpr), .bool (m.getD i default).lo, .bool (m.getD i default).hi]]), ?_, ?_, by first | rfl | (simp [go_sem]; done), ou_, at_⟩ <;> (try dsimp only)
      · exact ⟨by omega, before_succ h2 hw⟩
      · omega
  · repeat' first | refine go_ ?_ | refine br_ (fun hw => ?_) (fun hw => ?_) <;> try omega | fail
    refine leafE ?_ rfl
    rw [eqL_non hlm (fun k hk => h2 k (by omega))]
theorem slices_IndexFunc_Test (fn : FuncId) (cap : List AV) (hcap : AV.purL cap = true) (p : Test → Bool) (l : List Test) (h : ∀ k, k < l.length → CallF Tryz.prog fn (eTest (l.getD k default) :: cap) (.bool (p (l.getD k default)))) (hl : l.length ≤ 2 ^ 62) :
    CallF Tryz.prog n_slices_IndexFunc_Test [eTests l, .fn (.func fn) [] cap] (I (idxF p l)) := by
  refine CallF.of_nil (of_slices_IndexFunc_Test (by simp) ?_) (by simp [AV.pur, AV.purL, hcap, pur_eTests])
  unfold b_slices_IndexFunc_Test WpR
  intro Q hQr hQn hQp
  repeat' first | refine go_ ?_ | refine br_ (fun hw => ?_) (fun hw => ?_) <;> try omega | fail
  with_reducible refine loop_i [4, 5, 8, 9, 10, 11, 12, 13, 14, 15, 16, 17, 18] (fun i : Nat => [(8, I i)]) (fun _ => []) (fun i => i ≤ l.length ∧ ∀ k, k < i → p (l.getD k default) = false) (fun i => l.length - i) (0) ?_ ?_ ?_ ?_
  · simp
  · rfl
  · exact at_
  · rintro i r ⟨hi, hp⟩
    by_cases hin : i < l.length
    · have hx := h i hin
      simp only [eTest, eCol, eRule, eLine, eCell, eExprs, eTests, eVals, eStrs, eCells] at hx
      repeat' first | refine go_ ?_ | refine cf_ hx ?_ | refine br_ (fun hw => ?_) (fun hw => ?_) <;> try omega | fail
      · refine leafE ?_ rfl
        refine congrArg I ?_
        exact (idxF_at hin hp hw).symm
      · refine ⟨i + 1, ?_, ?_, by first | rfl | (simp [go_sem]; done), ou_, at_⟩ <;> (try dsimp only)
        · exact ⟨by omega, before_succ hp hw⟩
        · omega
    · repeat' first | refine go_ ?_ | refine br_ (fun hw => ?_) (fun hw => ?_) <;> try omega | fail
      refine leafE ?_ rfl
      refine congrArg I ?_
      exact (idxF_none fun k hk => hp k (by omega)).symm
theorem slices_ContainsFunc_Test (fn : FuncId) (cap : List AV) (hcap : AV.purL cap = true) (p : Test → Bool) (l : List Test) (h : ∀ k, k < l.length → CallF Tryz.prog fn (eTest (l.getD k default) :: cap) (.bool (p (l.getD k default)))) (hl : l.length ≤ 2 ^ 62) :
    CallF Tryz.prog n_slices_ContainsFunc_Test [eTests l, .fn (.func fn) [] cap] (.bool (l.any p)) := by
  refine CallF.of_nil (of_slices_ContainsFunc_Test (by simp) ?_) (by simp [AV.pur, AV.purL, hcap, pur_eTests])
  unfold b_slices_ContainsFunc_Test WpR
  intro Q hQr hQn hQp
  have hc := slices_IndexFunc_Test fn cap hcap p l h hl
  simp only [eTests] at hc
  repeat' first | refine go_ ?_ | refine cf_ hc ?_ | refine br_ (fun hw => ?_) (fun hw => ?_) <;> try omega | fail
  all_goals refine leafE ?_ rfl
  all_goals rw [← idxF_any]
def soundT (t : Test) : Bool :=
  if t.kind = 6 then partX t.a && partX t.b
  else decide (1 ≤ t.kind ∧ t.kind ≤ 5) && partX t.a && sameS t.b x0 && !t.lo && !t.hi
def okT (t : Test) : Prop := (okX t.a ∧ szS t.a ≤ 2 ^ 60) ∧ okX t.b ∧ szS t.b ≤ 2 ^ 60
def okC (c : Cell) : Prop := c.tests.length ≤ 2 ^ 60 ∧ ∀ t ∈ c.tests, okT t
def rightC (c : Cell) : Bool :=
  if c.any then !c.neg && decide (c.tests.length = 0)
  else decide (1 ≤ c.tests.length ∧ c.tests.length ≤ 12) && !(c.tests.any fun t => !(soundT t))
theorem szS_x0 : szS x0 ≤ 2 ^ 60 := by simp [x0, szS, szL]
theorem eExpr_x0 : eExpr x0 = .agg [I 0, I 0, I 0, .str [], .str [], .lst false EX []] := by simp [x0, v0, eExpr]
theorem cell_of (t : Test) : CallF Tryz.prog n_cell_of [eTest t] (.agg [.bool t.lo, .bool t.hi]) := by
  refine CallF.of_nil (of_cell_of (by simp) ?_) (by simp)
  unfold b_cell_of WpR
  intro Q hQr hQn hQp
  simp only [eTest, eExprs]
  repeat' first | refine go_ ?_ | refine br_ (fun hw => ?_) (fun hw => ?_) <;> try omega | fail
  all_goals exact leafE rfl rfl
theorem cell_sound (t : Test) (h : okT t) : CallF Tryz.prog n_cell_sound [eTest t] (.bool (soundT t)) := by
  obtain ⟨⟨a1, a2⟩, b1, b2⟩ := h
  have ha := cell_part t.a a1 a2
  have hb := cell_part t.b b1 b2
  have hs := syntax_Same t.b x0 (brX_sz _ b2) (brX_sz _ szS_x0)
  have ho := cell_of t
  rw [eExpr_x0] at hs
  rw [eExpr_eq] at ha hb hs
  simp only [eTest, eExprs] at ho ⊢
  have hS : soundT t = if t.kind = 6 then partX t.a && partX t.b else decide (1 ≤ t.kind ∧ t.kind ≤ 5) && partX t.a && sameS t.b x0 && !t.lo && !t.hi := rfl
  rw [hS]
  clear hS
  generalize partX t.a = pa at *
  generalize partX t.b = pb at *
  generalize sameS t.b x0 = sb at *
  refine CallF.of_nil (of_cell_sound (by simp) ?_) (by simp)
  unfold b_cell_sound WpR
  intro Q hQr hQn hQp
  repeat' first | refine go_ ?_ | refine cf_ ha ?_ | refine cf_ hb ?_ | refine cw_ hs ?_ | refine cf_ ho ?_ | refine br_ (fun hw => ?_) (fun hw => ?_) <;> try omega | fail
  all_goals (refine leafE ?_ rfl; refine congrArg AV.bool ?_; rw [Bool.eq_iff_iff]; simp_all)
  all_goals (try omega)
theorem cell_Check_1 (t : Test) (h : okT t) : CallF Tryz.prog n_cell_Check_1 [eTest t] (.bool (!(soundT t))) := by
  have h1 := cell_sound t h
  simp only [eTest, eExprs] at h1 ⊢
  generalize soundT t = b at *
  refine CallF.of_nil (of_cell_Check_1 (by simp) ?_) (by simp)
  unfold b_cell_Check_1 WpR
  intro Q hQr hQn hQp
  repeat' first | refine go_ ?_ | refine cf_ h1 ?_ | refine br_ (fun hw => ?_) (fun hw => ?_) <;> try omega | fail
  all_goals exact leafE rfl rfl
theorem cell_Check (c : Cell) (h : okC c) : CallF Tryz.prog n_cell_Check [eCell c] (I (errB (rightC c))) := by
  have hc := slices_ContainsFunc_Test n_cell_Check_1 [] rfl (fun t => !(soundT t)) c.tests (fun k hk => cell_Check_1 _ (h.2 _ (getD_mem hk))) (by have := h.1; omega)
  have hl := h.1
  simp only [eTests, eCell] at hc ⊢
  have hS : rightC c = if c.any then !c.neg && decide (c.tests.length = 0) else decide (1 ≤ c.tests.length ∧ c.tests.length ≤ 12) && !(c.tests.any fun t => !(soundT t)) := rfl
  rw [hS]
  clear hS
  generalize c.tests.any (fun t => !(soundT t)) = an at *
  refine CallF.of_nil (of_cell_Check (by simp) ?_) (by simp)
  unfold b_cell_Check WpR
  intro Q hQr hQn hQp
  repeat' first | refine go_ ?_ | refine cf_ hc ?_ | refine br_ (fun hw => ?_) (fun hw => ?_) <;> try omega | fail
  all_goals (refine leafE ?_ rfl; refine congrArg I ?_; simp_all [errB, ← List.length_eq_zero_iff])
  all_goals (try omega)
  all_goals (intro h0; exfalso; omega)
def signK (k : Int) : Str := if k = 2 then [60] else if k = 3 then [60, 61] else if k = 4 then [62] else if k = 5 then [62, 61] else []
theorem cell_sign (k : Int) : CallF Tryz.prog n_cell_sign [I k] (.str (signK k)) := by
  refine CallF.of_nil (of_cell_sign (by simp) ?_) rfl
  unfold b_cell_sign WpR
  intro Q hQr hQn hQp
  repeat' first | refine go_ ?_ | refine br_ (fun hw => ?_) (fun hw => ?_) <;> try omega | fail
  all_goals (refine leafE ?_ rfl; simp_all [signK])
def markT (T : List Tok) (p : Nat) : Str := if (T.getD p default).kind = 4 then (T.getD p default).s else []
theorem onT_mark (T : List Tok) (p : Nat) (b : Bool) (s : Str) (hs : s ≠ []) : onT T p b 4 s = (!b && decide (markT T p = s)) := by
  unfold onT isT markT
  by_cases hp : p < T.length
  · generalize T.getD p default = t
    by_cases h4 : t.kind = 4
    · simp [hp, h4]
    · simp [hp, h4, Ne.symm hs]
  · rw [getD_out (by omega)]
    simp [hp, tok0, Ne.symm hs]
theorem cell_mark (T : List Tok) (p : Nat) (b : Bool) : CallM Tryz.prog n_cell_cursor_mark 0 [] (eRd T p b) (eRd T p b) (.str (markT T p)) := by
  by_cases hp : p < T.length
  · refine CallM.of_one (of_cell_cursor_mark (by simp) ?_) rfl (purL_rd _ _ _)
    unfold b_cell_cursor_mark WpR
    intro Q hQr hQn hQp
    repeat' first | refine go_ ?_ | refine br_ (fun hw => ?_) (fun hw => ?_) <;> try omega | fail
    all_goals (refine leafS (View.eqv ?_ rfl) (ViewL.refl (purL_rd T p b)); simp_all [markT])
  · have : markT T p = [] := by unfold markT; rw [getD_out (by omega)]; simp [tok0]
    rw [this]
    refine CallM.of_one (of_cell_cursor_mark (by simp) ?_) rfl (purL_rd _ _ _)
    unfold b_cell_cursor_mark WpR
    intro Q hQr hQn hQp
    repeat' first | refine go_ ?_ | refine br_ (fun hw => ?_) (fun hw => ?_) <;> try omega | fail
    all_goals exact leafS (View.eqv rfl rfl) (ViewL.refl (purL_rd T p b))
theorem cell_on (T : List Tok) (p : Nat) (b : Bool) (s : Str) (hs : s ≠ []) (hp : p ≤ 2 ^ 61) : CallM Tryz.prog n_cell_reader_on 0 [.str s] (eRd T p b) (eRd T (onP T p b 4 s) b) (.bool (onT T p b 4 s)) := by
  have hn := cell_mark T p b
  unfold onP
  rw [onT_mark T p b s hs]
  generalize markT T p = t at hn ⊢
  simp only [eRd] at hn
  refine CallM.of_one (of_cell_reader_on (by simp) ?_) rfl (purL_rd _ _ _)
  unfold b_cell_reader_on WpR
  intro Q hQr hQn hQp
  repeat' first | refine go_ ?_ | refine cm_ hn ?_ | refine br_ (fun hw => ?_) (fun hw => ?_) <;> try omega | fail
  all_goals first
    | (refine leafS (View.eqv ?_ rfl) (ViewL.eqv ?_ (purL_rd _ _ _)) <;> simp_all [eRd]; done)
theorem cell_must (T : List Tok) (p : Nat) (b : Bool) (s : Str) (hs : s ≠ []) (hp : p ≤ 2 ^ 61) : CallM Tryz.prog n_cell_reader_must 0 [.str s] (eRd T p b) (eRd T (onP T p b 4 s) (b || !(onT T p b 4 s))) (.tup []) := by
  have hn := cell_on T p b s hs hp
  generalize onT T p b 4 s = o at hn ⊢
  simp only [eRd] at hn
  refine CallM.of_one (of_cell_reader_must (by simp) ?_) rfl (purL_rd _ _ _)
  unfold b_cell_reader_must WpR
  intro Q hQr hQn hQp
  cases o
  · repeat' first | refine go_ ?_ | refine cm_ hn ?_ | refine br_ (fun hw => ?_) (fun hw => ?_) <;> try omega | fail
    refine leafM0 rfl (ViewL.eqv ?_ (purL_rd _ _ _)); simp [eRd]
  · repeat' first | refine go_ ?_ | refine cm_ hn ?_ | refine br_ (fun hw => ?_) (fun hw => ?_) <;> try omega | fail
    refine leafM0 rfl (ViewL.eqv ?_ (purL_rd _ _ _)); simp [eRd]
def rdX (T : List Tok) (l q : Nat) : RS := ⟨(readT T q l).1, (readT T q l).2.1.toNat, decide ((readT T q l).2.2 ≠ 0)⟩
def exprR (T : List Tok) (p : Nat) (b : Bool) : RS := rdB (rdX T) 4 p b
theorem exprR_true (T : List Tok) (p : Nat) : exprR T p true = ⟨x0, p, true⟩ := rfl
theorem exprR_false (T : List Tok) (p : Nat) : exprR T p false = rdX T 4 p := rfl
theorem goes_rdX (T : List Tok) {q : Nat} (hq : q ≤ T.length) : Goes T.length q (rdX T 4 q) := by
  have hg : ¬ ((q : Int) < 0 ∨ (T.length : Int) < q ∨ ((4 : Nat) : Int) < 0 ∨ 7 < ((4 : Nat) : Int)) := by omega
  have g := (goes_rd T (8 * T.length + 9) none 4 q hq).1 rfl
  unfold rdX readT
  rw [if_neg hg, Int.toNat_natCast, Int.toNat_natCast]
  split
  · exact ⟨by simpa using g.1, by simpa using g.2.1, fun h => by simp at h⟩
  · rename_i h
    exact ⟨by simpa using g.1, by simpa using g.2.1, fun _ => by have := g.2.2 (by simpa using h); simpa using this⟩
theorem goes_expr (T : List Tok) {q : Nat} {b : Bool} (hq : q ≤ T.length) : Goes T.length q (exprR T q b) := by
  cases b with
  | true => exact ⟨Nat.le_refl _, hq, fun h => by cases h⟩
  | false => exact goes_rdX T hq
theorem cell_expr (T : List Tok) (p : Nat) (b : Bool) (hT : T.length ≤ 2 ^ 50) (hs : ∀ q, (T.getD q default).s.length ≤ 2 ^ 62) : CallM Tryz.prog n_cell_reader_expr 0 [] (eRd T p b) (eRd T (exprR T p b).p (exprR T p b).bad) (eExpr (exprR T p b).x) := by
  cases b with
  | true =>
    rw [exprR_true]
    generalize hE : eExpr _ = E
    refine CallM.of_one (of_cell_reader_expr (by simp) ?_) rfl (purL_rd _ _ _)
    unfold b_cell_reader_expr WpR
    intro Q hQr hQn hQp
    repeat' first | refine go_ ?_ | refine br_ (fun hw => ?_) (fun hw => ?_) <;> try omega | fail
    exact leafS (by rw [← hE]; exact viewX (.nils _)) (ViewL.refl (purL_rd T p true))
  | false =>
    rw [exprR_false]
    have cr := syntax_Read T p 4 hT hs
    have hp0 := (readT_p T p 4).1
    simp only [rdX]
    have e4 : ((4 : Nat) : Int) = 4 := rfl
    rw [e4]
    generalize readT T p 4 = r at *
    obtain ⟨rx, rn, re⟩ := r
    dsimp only at *
    obtain ⟨n, rfl⟩ : ∃ n : Nat, rn = n := ⟨rn.toNat, by omega⟩
    have e2 : ∀ σ : Store, View σ (.agg [I rx.op, I rx.v.kind, I rx.v.n, .str rx.v.s, .str rx.s, .lst false EX (rx.l.map eExpr)]) (eExpr rx) := fun σ => View.eqv (eExpr_eq _).symm (pur_eExpr _)
    simp only [eX3, eToks] at cr
    rw [eExpr_eq] at cr
    generalize eExpr rx = E at *
    rw [Int.toNat_natCast]
    refine CallM.of_one (of_cell_reader_expr (by simp) ?_) rfl (purL_rd _ _ _)
    unfold b_cell_reader_expr WpR
    intro Q hQr hQn hQp
    repeat' first | refine go_ ?_ | refine cf_ cr ?_ | refine br_ (fun hw => ?_) (fun hw => ?_) <;> try omega | fail
    all_goals (refine leafS (e2 _) (ViewL.eqv ?_ (purL_rd _ _ _)); simp [eRd]; rw [Bool.eq_iff_iff]; simp)
end Go.Proofs.YthkhdedadacakaaGreatDoor
