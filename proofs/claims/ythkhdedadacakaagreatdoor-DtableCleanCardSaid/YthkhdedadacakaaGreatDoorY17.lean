/- Part of a proof: see Root. -/
import Derived.Test.YthkhdedadacakaaGreatDoorY16
set_option linter.unnecessarySimpa false
set_option linter.unusedSimpArgs false
set_option linter.unusedVariables false
namespace Go.Proofs.YthkhdedadacakaaGreatDoor
open Go.AM
set_option maxRecDepth 4000
def eqL {α β : Type} (p : α → β → Bool) : List α → List β → Bool
  | [], [] => true
  | x :: r, y :: t => p x y && eqL p r t
  | _, _ => false
theorem eqL_len {α β : Type} {p : α → β → Bool} : ∀ {l : List α} {m : List β}, l.length ≠ m.length → eqL p l m = false
  | [], [], h => absurd rfl h
  | [], _ :: _, _ => rfl
  | _ :: _, [], _ => rfl
  | x :: r, y :: t, h => by simp only [eqL]; rw [eqL_len (by simpa using h), Bool.and_false]
theorem eqL_at {α β : Type} [Inhabited α] [Inhabited β] {p : α → β → Bool} : ∀ {l : List α} {m : List β} {i : Nat}, i < l.length → p (l.getD i default) (m.getD i default) = false → i < m.length → eqL p l m = false
  | x :: r, y :: t, 0, _, h, _ => by simp only [List.getD_cons_zero] at h; simp only [eqL, h, Bool.false_and]
  | x :: r, y :: t, i + 1, h1, h, h2 => by
    simp only [List.getD_cons_succ] at h
    simp only [eqL]; rw [eqL_at (i := i) (by simpa using h1) h (by simpa using h2), Bool.and_false]
theorem eqL_non {α β : Type} [Inhabited α] [Inhabited β] {p : α → β → Bool} : ∀ {l : List α} {m : List β}, l.length = m.length → (∀ k, k < l.length → p (l.getD k default) (m.getD k default) = true) → eqL p l m = true
  | [], [], _, _ => rfl
  | x :: r, y :: t, h, hp => by
    have h0 := hp 0 (by simp)
    simp only [List.getD_cons_zero] at h0
    simp only [eqL, h0, Bool.true_and]
    exact eqL_non (by simpa using h) (fun k hk => by have := hp (k + 1) (by simpa using hk); simpa only [List.getD_cons_succ] using this)
@[go_sem] theorem last2a {α : Type} (τ : List α) (c d : α) : (τ ++ [c] ++ [d])[τ.length + 1]? = some d := by simp
@[go_sem] theorem last2b {α : Type} (τ : List α) (c d : α) : (τ ++ [c] ++ [d])[τ.length]? = some c := by simp
@[go_sem] theorem set2a {α : Type} (τ : List α) (c d e : α) : (τ ++ [c] ++ [d]).set (τ.length + 1) e = τ ++ [c] ++ [e] := by simp
theorem slices_EqualFunc_Expr (fn : FuncId) (cap : List AV) (hcap : AV.purL cap = true) (p : Expr → Expr → Bool) (l m : List Expr)
    (h : ∀ k, k < l.length → k < m.length → CallF Tryz.prog fn (eExpr (l.getD k default) :: eExpr (m.getD k default) :: cap) (.bool (p (l.getD k default) (m.getD k default)))) (hl : l.length ≤ 2 ^ 62) (hm : m.length ≤ 2 ^ 62) :
    CallF Tryz.prog n_slices_EqualFunc_Expr [eExprs l, eExprs m, .fn (.func fn) [] cap] (.bool (eqL p l m)) := by
  refine CallF.of_nil (of_slices_EqualFunc_Expr (by simp) ?_) (by simp [AV.pur, AV.purL, hcap, pur_eExprs])
  unfold b_slices_EqualFunc_Expr WpR
  intro Q hQr hQn hQp
  repeat' first | refine go_ ?_ | refine br_ (fun hw => ?_) (fun hw => ?_) <;> try omega | fail
  · refine leafE ?_ rfl
    rw [eqL_len (by omega)]
  have hlm : l.length = m.length := by omega
  with_reducible refine loop_i [6, 7, 8, 9, 17, 18, 19, 20, 21, 22, 23, 24, 25, 26, 27, 28, 29, 30, 31] (fun p : Nat × List AObj => [(17, I p.1)]) (fun p => p.2) (fun q => q.1 ≤ l.length ∧ ∀ k, k < q.1 → p (l.getD k default) (m.getD k default) = true) (fun p => l.length - p.1) (0, []) ?_ ?_ ?_ ?_
  · simp
  · rfl
  · exact at_
  rintro ⟨i, τ⟩ r ⟨h1, h2⟩
  dsimp only at h1 h2
  by_cases hi : i < l.length
  · have hy := h i hi (by omega)
    rw [eExpr_eq, eExpr_eq] at hy
    repeat' first | refine go_ ?_ | refine cf_ hy ?_ | refine br_ (fun hw => ?_) (fun hw => ?_) <;> try omega | fail
    · refine leafE ?_ rfl
      rw [eqL_at hi hw (by omega)]
    · refine ⟨(i + 1, τ ++ [.cells [I (l.getD i default).op, I (l.getD i default).v.kind, I (l.getD i default).v.n, .str (l.getD i default).v.s, .str (l.getD i default).s, .lst false EX ((l.getD i default).l.map eExpr)]] ++ [.cells [I (m.getD i default).op, I (m.getD i default).v.kind, I (m.getD i default).v.n, .str (m.getD i default).v.s, .str (m.getD i default).s, .lst false EX ((m.getD i default).l.map eExpr)]]), ?_, ?_, by first | rfl | (simp [go_sem]; done), ou_, at_⟩ <;> (try dsimp only)
      · exact ⟨by omega, before_succ h2 hw⟩
      · omega
  · repeat' first | refine go_ ?_ | refine br_ (fun hw => ?_) (fun hw => ?_) <;> try omega | fail
    refine leafE ?_ rfl
    rw [eqL_non hlm (fun k hk => h2 k (by omega))]
mutual
def sameS : Expr → Expr → Bool
  | .mk o v s l, y => decide (o = y.op) && decide (v = y.v) && decide (s = y.s) && sameL l y.l
def sameL : List Expr → List Expr → Bool
  | [], [] => true
  | x :: r, y :: t => sameS x y && sameL r t
  | _, _ => false
end
theorem sameL_eq : ∀ (l m : List Expr), sameL l m = eqL sameS l m
  | [], [] => rfl
  | [], _ :: _ => rfl
  | _ :: _, [] => rfl
  | x :: r, y :: t => by simp only [sameL, eqL, sameL_eq r t]
mutual
def brX : Expr → Prop
  | .mk _ _ _ l => l.length ≤ 2 ^ 60 ∧ brL l
def brL : List Expr → Prop
  | [] => True
  | x :: r => brX x ∧ brL r
end
theorem brL_mem {l : List Expr} {x : Expr} (h : brL l) (hx : x ∈ l) : brX x := by
  induction l with
  | nil => cases hx
  | cons y r ih =>
    simp only [brL] at h
    rcases List.mem_cons.1 hx with rfl | hx
    · exact h.1
    · exact ih h.2 hx
theorem brL_of {l : List Expr} (h : ∀ x ∈ l, brX x) : brL l := by
  induction l with
  | nil => trivial
  | cons y r ih => exact ⟨h y (by simp), ih (fun x hx => h x (List.mem_cons_of_mem _ hx))⟩
theorem brX_sz (x : Expr) : szS x ≤ 2 ^ 60 → brX x := by
  induction x using Expr.ind with
  | h op v s l ih =>
    intro h
    simp only [szS] at h
    have hl := len_szL l
    exact ⟨by omega, brL_of (fun y hy => ih y hy (by have := mem_szL hy; omega))⟩
theorem syntax_Same (x : Expr) : ∀ y : Expr, brX x → brX y → CallF Tryz.prog n_syntax_Same [eExpr x, eExpr y] (.bool (sameS x y)) := by
  induction x using Expr.ind with
  | h op v s l ih =>
    rintro ⟨op', v', s', m⟩ hx hy
    simp only [brX] at hx hy
    obtain ⟨hl, hbl⟩ := hx
    obtain ⟨hm, hbm⟩ := hy
    have hc := slices_EqualFunc_Expr n_syntax_Same [] rfl sameS l m (fun k h1 h2 => ih _ (getD_mem h1) _ (brL_mem hbl (getD_mem h1)) (brL_mem hbm (getD_mem h2))) (by omega) (by omega)
    rw [← sameL_eq] at hc
    simp only [eExprs] at hc
    obtain ⟨vk, vn, vs⟩ := v
    obtain ⟨vk', vn', vs'⟩ := v'
    refine CallF.of_nil (of_syntax_Same (by simp) ?_) (by simp)
    unfold b_syntax_Same WpR
    intro Q hQr hQn hQp
    repeat' first | refine go_ ?_ | refine cf_ hc ?_ | refine br_ (fun hw => ?_) (fun hw => ?_) <;> try omega | fail
    all_goals refine leafE ?_ rfl
    all_goals (refine congrArg AV.bool ?_; simp only [sameS, Expr.op, Expr.v, Expr.s, Expr.l])
    all_goals (rw [Bool.eq_iff_iff]; simp_all)
theorem ref14_Same (x : Expr) : ∀ y : Expr, brX x → brX y → CallF Tryz.prog n_ref14_Same [eExpr x, eExpr y] (.bool (sameS x y)) := by
  induction x using Expr.ind with
  | h op v s l ih =>
    rintro ⟨op', v', s', m⟩ hx hy
    simp only [brX] at hx hy
    obtain ⟨hl, hbl⟩ := hx
    obtain ⟨hm, hbm⟩ := hy
    have hc : ∀ k, k < l.length → k < m.length → _ := fun k h1 h2 => ih _ (getD_mem h1) (m.getD k default) (brL_mem hbl (getD_mem h1)) (brL_mem hbm (getD_mem h2))
    obtain ⟨vk, vn, vs⟩ := v
    obtain ⟨vk', vn', vs'⟩ := v'
    have hs : sameS (.mk op ⟨vk, vn, vs⟩ s l) (.mk op' ⟨vk', vn', vs'⟩ s' m) = (decide (op = op') && decide ((⟨vk, vn, vs⟩ : Val) = ⟨vk', vn', vs'⟩) && decide (s = s') && eqL sameS l m) := by
      rw [← sameL_eq]; rfl
    rw [hs]
    refine CallF.of_nil (of_ref14_Same (by simp) ?_) (by simp)
    unfold b_ref14_Same WpR
    intro Q hQr hQn hQp
    repeat' first | refine go_ ?_ | refine br_ (fun hw => ?_) (fun hw => ?_) <;> try omega | fail
    · refine leafE ?_ rfl
      rw [eqL_len (by omega), Bool.and_false]
    · have hlm : l.length = m.length := by omega
      with_reducible refine loop_i [4, 5, 34, 35, 36, 37, 38, 39, 40, 41, 42, 43, 44, 45, 46, 47, 48, 49, 50, 51, 52] (fun i : Nat => [(5, I i)]) (fun _ => [.cells [I op, I vk, I vn, .str vs, .str s, .lst false EX (l.map eExpr)], .cells [I op', I vk', I vn', .str vs', .str s', .lst false EX (m.map eExpr)]]) (fun i => i ≤ l.length ∧ ∀ k, k < i → sameS (l.getD k default) (m.getD k default) = true) (fun i => l.length - i) 0 ?_ ?_ ?_ ?_
      · simp
      · rfl
      · exact at_
      rintro i r ⟨h1, h2⟩
      by_cases hi : i < l.length
      · have hy := hc i hi (by omega)
        rw [eExpr_eq, eExpr_eq] at hy
        repeat' first | refine go_ ?_ | refine cf_ hy ?_ | refine br_ (fun hw => ?_) (fun hw => ?_) <;> try omega | fail
        · refine leafE ?_ rfl
          rw [eqL_at hi hw (by omega), Bool.and_false]
        · refine ⟨i + 1, ?_, ?_, by first | rfl | (simp [go_sem]; done), ou_, at_⟩ <;> (try dsimp only)
          · exact ⟨by omega, before_succ h2 hw⟩
          · omega
      · repeat' first | refine go_ ?_ | refine br_ (fun hw => ?_) (fun hw => ?_) <;> try omega | fail
        refine leafE ?_ rfl
        rw [eqL_non hlm (fun k hk => h2 k (by omega))]
        simp_all
    · refine leafE ?_ rfl
      rw [decide_eq_false (by assumption : ¬ s = s'), Bool.and_false, Bool.false_and]
    · refine leafE ?_ rfl
      refine congrArg AV.bool ?_
      have : decide ((⟨vk, vn, vs⟩ : Val) = ⟨vk', vn', vs'⟩) = false := by simp_all
      rw [this, Bool.and_false, Bool.false_and, Bool.false_and]
    · refine leafE ?_ rfl
      rw [decide_eq_false (by assumption : ¬ op = op'), Bool.false_and, Bool.false_and, Bool.false_and]
theorem slices_IndexFunc_Expr (fn : FuncId) (cap : List AV) (hcap : AV.purL cap = true) (p : Expr → Bool) (l : List Expr) (h : ∀ k, k < l.length → CallF Tryz.prog fn (eExpr (l.getD k default) :: cap) (.bool (p (l.getD k default)))) (hl : l.length ≤ 2 ^ 62) :
    CallF Tryz.prog n_slices_IndexFunc_Expr [eExprs l, .fn (.func fn) [] cap] (I (idxF p l)) := by
  refine CallF.of_nil (of_slices_IndexFunc_Expr (by simp) ?_) (by simp [AV.pur, AV.purL, hcap, pur_eExprs])
  unfold b_slices_IndexFunc_Expr WpR
  intro Q hQr hQn hQp
  repeat' first | refine go_ ?_ | refine br_ (fun hw => ?_) (fun hw => ?_) <;> try omega | fail
  with_reducible refine loop_i [4, 5, 8, 9, 10, 11, 12, 13, 14, 15, 16, 17, 18] (fun i : Nat => [(8, I i)]) (fun _ => []) (fun i => i ≤ l.length ∧ ∀ k, k < i → p (l.getD k default) = false) (fun i => l.length - i) (0) ?_ ?_ ?_ ?_
  · simp
  · rfl
  · exact at_
  · rintro i r ⟨hi, hp⟩
    by_cases hin : i < l.length
    · have hx := h i hin
      rw [eExpr_eq] at hx
      repeat' first | refine go_ ?_ | refine cf_ hx ?_ | refine br_ (fun hw => ?_) (fun hw => ?_) <;> try omega | fail
      · refine leafE ?_ rfl
        refine congrArg I ?_
        exact (idxF_at hin hp hw).symm
      · refine ⟨i + 1, ?_, ?_, by first | rfl | (simp [go_sem]; done), ou_, at_⟩ <;> (try dsimp only)
        · exact ⟨by omega, before_succ hp hw⟩
        · omega
    · repeat' first | refine go_ ?_ | refine br_ (fun hw => ?_) (fun hw => ?_) <;> try omega | fail
      refine leafE ?_ rfl
      refine congrArg I ?_
      exact (idxF_none fun k hk => hp k (by omega)).symm
theorem idxF_any {α : Type} [Inhabited α] (p : α → Bool) (l : List α) : decide (0 ≤ idxF p l) = l.any p := by
  rcases find_idx p l with ⟨h1, h2⟩ | ⟨i, h1, h2, h3⟩
  · rw [h1, show decide ((0 : Int) ≤ -1) = false from (by decide)]; symm
    rw [List.any_eq_false]; exact List.find?_eq_none.1 h2
  · rw [h2, decide_eq_true (by omega)]; symm
    rw [List.any_eq_true]; exact ⟨_, getD_mem h1, List.find?_some h3⟩
theorem slices_ContainsFunc_Expr (fn : FuncId) (cap : List AV) (hcap : AV.purL cap = true) (p : Expr → Bool) (l : List Expr) (h : ∀ k, k < l.length → CallF Tryz.prog fn (eExpr (l.getD k default) :: cap) (.bool (p (l.getD k default)))) (hl : l.length ≤ 2 ^ 62) :
    CallF Tryz.prog n_slices_ContainsFunc_Expr [eExprs l, .fn (.func fn) [] cap] (.bool (l.any p)) := by
  refine CallF.of_nil (of_slices_ContainsFunc_Expr (by simp) ?_) (by simp [AV.pur, AV.purL, hcap, pur_eExprs])
  unfold b_slices_ContainsFunc_Expr WpR
  intro Q hQr hQn hQp
  have hc := slices_IndexFunc_Expr fn cap hcap p l h hl
  simp only [eExprs] at hc
  repeat' first | refine go_ ?_ | refine cf_ hc ?_ | refine br_ (fun hw => ?_) (fun hw => ?_) <;> try omega | fail
  all_goals refine leafE ?_ rfl
  all_goals rw [← idxF_any]
def v0 : Val := ⟨0, 0, []⟩
mutual
def rightX : Expr → Bool
  | .mk op v s l => decide ((l.length : Int) = countS op) &&
      (if op = 1 then decide (s = []) && rightV v && (decide (v.kind ≠ 1) || decide (0 ≤ v.n))
       else if op = 2 then decide (v = v0) && nameS s
       else decide (v = v0) && decide (s = []) && rightL l)
def rightL : List Expr → Bool
  | [] => true
  | x :: r => rightX x && rightL r
end
theorem rightL_any (l : List Expr) : rightL l = !(l.any fun x => !(rightX x)) := by
  induction l with
  | nil => rfl
  | cons x r ih => simp [rightL, ih]
mutual
def okX : Expr → Prop
  | .mk _ v s l => s.length ≤ 2 ^ 62 ∧ v.s.length ≤ 2 ^ 62 ∧ -9223372036854775808 ≤ v.n ∧ v.n ≤ 9223372036854775807 ∧ okL l
def okL : List Expr → Prop
  | [] => True
  | x :: r => okX x ∧ okL r
end
theorem okL_mem {l : List Expr} {x : Expr} (h : okL l) (hx : x ∈ l) : okX x := by
  induction l with
  | nil => cases hx
  | cons y r ih =>
    simp only [okL] at h
    rcases List.mem_cons.1 hx with rfl | hx
    · exact h.1
    · exact ih h.2 hx
theorem syntax_right_1 (x : Expr) (h : CallF Tryz.prog n_syntax_right [eExpr x] (.bool (rightX x))) : CallF Tryz.prog n_syntax_right_1 [eExpr x] (.bool (!(rightX x))) := by
  refine CallF.of_nil (of_syntax_right_1 (by simp) ?_) (by simp)
  unfold b_syntax_right_1 WpR
  intro Q hQr hQn hQp
  rw [eExpr_eq] at h ⊢
  repeat' first | refine go_ ?_ | refine cf_ h ?_ | refine br_ (fun hw => ?_) (fun hw => ?_) <;> try omega | fail
  all_goals refine leafE ?_ rfl
  all_goals simp_all
theorem syntax_right (x : Expr) : okX x → szS x ≤ 2 ^ 60 → CallF Tryz.prog n_syntax_right [eExpr x] (.bool (rightX x)) := by
  induction x using Expr.ind with
  | h op v s l ih =>
    intro hx hz
    simp only [szS] at hz
    simp only [okX] at hx
    obtain ⟨o1, o2, o3, o4, o5⟩ := hx
    have hl := len_szL l
    have hc := slices_ContainsFunc_Expr n_syntax_right_1 [] rfl (fun x => !(rightX x)) l (fun k h1 => syntax_right_1 _ (ih _ (getD_mem h1) (okL_mem o5 (getD_mem h1)) (by have := mem_szL (getD_mem h1); omega))) (by omega)
    simp only [eExprs] at hc
    obtain ⟨vk, vn, vs⟩ := v
    refine CallF.of_nil (of_syntax_right (by simp) ?_) (by simp)
    unfold b_syntax_right WpR
    intro Q hQr hQn hQp
    repeat' first | refine go_ ?_ | refine cf_ (syntax_count _) ?_ | refine cf_ (value_Check _ _ _ o3 o4) ?_ | refine cf_ (lex_Name _ o1) ?_ | refine cf_ hc ?_ | refine br_ (fun hw => ?_) (fun hw => ?_) <;> try omega | fail
    all_goals refine leafE ?_ rfl
    all_goals (refine congrArg AV.bool ?_; simp only [rightX, rightL_any])
    all_goals (rw [Bool.eq_iff_iff]; simp_all [v0, errB])
theorem syntax_Check (x : Expr) (hx : okX x) (hz : szS x ≤ 2 ^ 60) : CallF Tryz.prog n_syntax_Check [eExpr x] (I (errB (rightX x))) := by
  refine CallF.of_nil (of_syntax_Check (by simp) ?_) (by simp)
  unfold b_syntax_Check WpR
  intro Q hQr hQn hQp
  have h := syntax_right x hx hz
  rw [eExpr_eq] at h ⊢
  repeat' first | refine go_ ?_ | refine cf_ h ?_ | refine br_ (fun hw => ?_) (fun hw => ?_) <;> try omega | fail
  all_goals refine leafE ?_ rfl
  all_goals simp_all [errB]
theorem leafS {v r : AV} {ds0 ds : List AV} {τ : Store} (hv : View (.dead :: τ) v r) (hd : ViewL (.dead :: τ) ds0 ds) :
    ∃ r0 ds1 τ1, Out.ret (oneOf [v]) = Out.ret r0 ∧ AObj.cells ds0 :: τ = AObj.cells ds1 :: τ1 ∧ View (.dead :: τ1) r0 r ∧ ViewL (.dead :: τ1) ds1 ds := ⟨_, _, _, rfl, rfl, hv, hd⟩
def x0 : Expr := .mk 0 v0 [] []
def nowT (T : List Tok) (p : Nat) (b : Bool) : Tok := if b then default else T.getD p default
def isT (T : List Tok) (p : Nat) (k : Int) (s : Str) : Bool := decide (p < T.length) && (decide ((T.getD p default).kind = k) && decide ((T.getD p default).s = s))
def onT (T : List Tok) (p : Nat) (b : Bool) (k : Int) (s : Str) : Bool := !b && isT T p k s
def kindB (x : Bin) : Int := if x.level < 3 then 1 else 4
def opB (T : List Tok) (p : Nat) (b : Bool) (lvl : Int) : Option Bin := binL.find? fun x => x.level == lvl && onT T p b (kindB x) x.sign
def opP (T : List Tok) (p : Nat) (b : Bool) (lvl : Int) : Nat := if (opB T p b lvl).isSome then p + 1 else p
def opN (o : Option Bin) : Int := match o with
  | some x => x.op
  | none => 0
theorem ViewL.eqv {σ : Store} {a b : List AV} (h : a = b) (hp : AV.purL b = true) : ViewL σ a b := by subst h; exact ViewL.refl hp
def wordS (s : Str) : Option Val := if s = [110, 117, 108, 108] then some v0 else if s = [102, 97, 108, 115, 101] then some ⟨3, 0, []⟩ else if s = [116, 114, 117, 101] then some ⟨3, 1, []⟩ else none
structure RS where
  x : Expr
  p : Nat
  bad : Bool
deriving Inhabited
def eRd (T : List Tok) (p : Nat) (b : Bool) : List AV := [.lst false ET (T.map eTok), I p, .bool b]
attribute [go_sem] eRd
theorem purL_rd (T : List Tok) (p : Nat) (b : Bool) : AV.purL (eRd T p b) = true := by simp [eRd, AV.pur, AV.purL, purL_t]
theorem getD_out {α : Type} [Inhabited α] {l : List α} {i : Nat} (h : l.length ≤ i) : l.getD i default = default := by
  rw [List.getD_eq_getElem?_getD, List.getElem?_eq_none h]; rfl
theorem tok0 : (default : Tok) = ⟨0, [], 0, 0⟩ := rfl
theorem onT_now (T : List Tok) (p : Nat) (b : Bool) (k : Int) (s : Str) (hk : k ≠ 0) : onT T p b k s = (decide ((nowT T p b).kind = k) && decide ((nowT T p b).s = s)) := by
  unfold onT nowT isT
  cases b with
  | true => simp [tok0]; intro h; exact absurd h.symm hk
  | false =>
    by_cases hp : p < T.length
    · simp [hp]
    · rw [getD_out (by omega)]; simp [hp, tok0]; intro h; exact absurd h.symm hk
theorem syntax_now (T : List Tok) (p : Nat) (b : Bool) : CallM Tryz.prog n_syntax_reader_now 0 [] (eRd T p b) (eRd T p b) (eTok (nowT T p b)) := by
  refine CallM.of_one (of_syntax_reader_now (by simp) ?_) rfl (purL_rd _ _ _)
  unfold b_syntax_reader_now WpR
  intro Q hQr hQn hQp
  cases b with
  | true =>
    repeat' first | refine go_ ?_ | refine br_ (fun hw => ?_) (fun hw => ?_) <;> try omega | fail
    exact leafS (View.eqv rfl rfl) (ViewL.refl (purL_rd T p true))
  | false =>
    by_cases hp : p < T.length
    · repeat' first | refine go_ ?_ | refine br_ (fun hw => ?_) (fun hw => ?_) <;> try omega | fail
      refine leafS (View.eqv ?_ rfl) (ViewL.refl (purL_rd T p false))
      simp only [nowT]; rfl
    · repeat' first | refine go_ ?_ | refine br_ (fun hw => ?_) (fun hw => ?_) <;> try omega | fail
      refine leafS (View.eqv ?_ rfl) (ViewL.refl (purL_rd T p false))
      simp only [nowT]; rw [getD_out (by omega)]; rfl
def onP (T : List Tok) (p : Nat) (b : Bool) (k : Int) (s : Str) : Nat := if onT T p b k s then p + 1 else p
theorem syntax_on (T : List Tok) (p : Nat) (b : Bool) (k : Int) (s : Str) (hk : k ≠ 0) (hp : p ≤ 2 ^ 61) : CallM Tryz.prog n_syntax_reader_on 0 [I k, .str s] (eRd T p b) (eRd T (onP T p b k s) b) (.bool (onT T p b k s)) := by
  have hn := syntax_now T p b
  unfold onP
  rw [onT_now T p b k s hk]
  generalize nowT T p b = t at hn ⊢
  obtain ⟨tk, ts, tn, tp⟩ := t
  simp only [eRd, eTok] at hn
  refine CallM.of_one (of_syntax_reader_on (by simp) ?_) rfl (purL_rd _ _ _)
  unfold b_syntax_reader_on WpR
  intro Q hQr hQn hQp
  repeat' first | refine go_ ?_ | refine cm_ hn ?_ | refine br_ (fun hw => ?_) (fun hw => ?_) <;> try omega | fail
  all_goals first
    | (refine leafS (View.eqv ?_ rfl) (ViewL.eqv ?_ (purL_rd _ _ _)) <;> simp_all [eRd]; done)
theorem syntax_must (T : List Tok) (p : Nat) (b : Bool) (k : Int) (s : Str) (hk : k ≠ 0) (hp : p ≤ 2 ^ 61) : CallM Tryz.prog n_syntax_reader_must 0 [I k, .str s] (eRd T p b) (eRd T (onP T p b k s) (b || !(onT T p b k s))) (.tup []) := by
  have hn := syntax_on T p b k s hk hp
  generalize onT T p b k s = o at hn ⊢
  simp only [eRd] at hn
  refine CallM.of_one (of_syntax_reader_must (by simp) ?_) rfl (purL_rd _ _ _)
  unfold b_syntax_reader_must WpR
  intro Q hQr hQn hQp
  cases o
  · repeat' first | refine go_ ?_ | refine cm_ hn ?_ | refine br_ (fun hw => ?_) (fun hw => ?_) <;> try omega | fail
    refine leafM0 rfl (ViewL.eqv ?_ (purL_rd _ _ _)); simp [eRd]
  · repeat' first | refine go_ ?_ | refine cm_ hn ?_ | refine br_ (fun hw => ?_) (fun hw => ?_) <;> try omega | fail
    refine leafM0 rfl (ViewL.eqv ?_ (purL_rd _ _ _)); simp [eRd]
theorem syntax_word_ (s : Str) : CallF Tryz.prog n_syntax_word [.str s] (.tup [eVal ((wordS s).getD v0), .bool (wordS s).isSome]) := by
  refine CallF.of_nil (of_syntax_word (by simp) ?_) rfl
  unfold b_syntax_word WpR
  intro Q hQr hQn hQp
  repeat' first | refine go_ ?_ | refine br_ (fun hw => ?_) (fun hw => ?_) <;> try omega | fail
  all_goals refine leafNE ?_ rfl
  all_goals simp_all [wordS, eVal, v0]
theorem syntax_binary (T : List Tok) (p : Nat) (b : Bool) (lvl : Int) (hp : p ≤ 2 ^ 61) : CallM Tryz.prog n_syntax_reader_binary 0 [I lvl] (eRd T p b) (eRd T (opP T p b lvl) b) (I (opN (opB T p b lvl))) := by
  refine CallM.of_one (of_syntax_reader_binary (by simp) ?_) rfl (purL_rd _ _ _)
  unfold b_syntax_reader_binary WpR
  intro Q hQr hQn hQp
  have hl : binL.length = 12 := rfl
  have ho := fun k s (hk : k ≠ 0) => syntax_on T p b k s hk hp
  simp only [eRd] at ho
  repeat' first | refine go_ ?_ | refine cf_ syntax_binaries ?_ | refine br_ (fun hw => ?_) (fun hw => ?_) <;> try omega | fail
  with_reducible refine loop_i [4, 6, 7, 10, 11, 12, 13, 14, 15, 16, 17, 18, 19, 20, 21, 22, 23, 24, 25, 26, 27, 28, 29, 30] (fun q : Nat × List AObj => [(10, I q.1)]) (fun q => .cells [.lst false ET (T.map eTok), I p, .bool b] :: q.2) (fun q => q.1 ≤ 12 ∧ ∀ k, k < q.1 → ((binL.getD k default).level == lvl && onT T p b (kindB (binL.getD k default)) (binL.getD k default).sign) = false) (fun q => 12 - q.1) (0, []) ?_ ?_ ?_ ?_
  · simp
  · rfl
  · exact at_
  rintro ⟨i, τ⟩ r ⟨h1, h2⟩
  dsimp only at h1 h2
  by_cases hi : i < 12
  · obtain ⟨x, hx⟩ : ∃ x, binL.getD i default = x := ⟨_, rfl⟩
    have hyes : (x.level == lvl && onT T p b (kindB x) x.sign) = true → opB T p b lvl = some x := fun h => by
      unfold opB; rw [find_at (p := fun y : Bin => y.level == lvl && onT T p b (kindB y) y.sign) hi h2 (by rw [hx]; exact h), hx]
    have hnxt : (x.level == lvl && onT T p b (kindB x) x.sign) = false → ∀ k, k < i + 1 → ((binL.getD k default).level == lvl && onT T p b (kindB (binL.getD k default)) (binL.getD k default).sign) = false := fun h => before_succ h2 (by rw [hx]; exact h)
    have hk2 : (x.level < 3 ∧ kindB x = 1) ∨ (¬ x.level < 3 ∧ kindB x = 4) := by unfold kindB; split <;> simp_all
    clear h2
    rcases hk2 with ⟨hlv, hkb⟩ | ⟨hlv, hkb⟩
    all_goals rw [hkb] at hyes hnxt
    all_goals (
      repeat' first | simp (disch := omega) only [go_sem, hQr, hQn, hQp, wrapK_i64, wrapK_u8, wrapK_u64, Nat.reduceAdd, Nat.reduceBEq, ↓reduceIte, hx] | refine go_ ?_ | with_reducible refine callL_m (ho 1 _ (by decide)) rfl ?_ | with_reducible refine methT_m (ho 1 _ (by decide)) rfl ?_ | with_reducible refine callD_q (ho 1 _ (by decide)) rfl ?_ | with_reducible refine callL_m (ho 4 _ (by decide)) rfl ?_ | with_reducible refine methT_m (ho 4 _ (by decide)) rfl ?_ | with_reducible refine callD_q (ho 4 _ (by decide)) rfl ?_ | refine br_ (fun hw => ?_) (fun hw => ?_) <;> try omega | fail
      · rename_i _ hlq
        have hy := hyes (by rw [hlq, hw]; simp)
        refine leafS (View.eqv ?_ rfl) (ViewL.eqv ?_ (purL_rd _ _ _))
        · rw [hy]; rfl
        · simp [eRd, opP, hy, onP, hw]
      · rename_i hlq
        refine ⟨(i + 1, τ ++ [.cells [I x.op, .str x.sign, I x.level]]), ?_, ?_, ?_, ou_, at_⟩ <;> (try dsimp only)
        · exact ⟨by omega, hnxt (by rw [hw]; simp)⟩
        · omega
        · simp [onP, hw]
      · refine ⟨(i + 1, τ ++ [.cells [I x.op, .str x.sign, I x.level]]), ?_, ?_, ?_, ou_, at_⟩ <;> (try dsimp only)
        · exact ⟨by omega, hnxt (by rw [beq_eq_false_iff_ne.2 hw]; rfl)⟩
        · omega)
  · have hno : opB T p b lvl = none := by
      unfold opB; rw [find_non (p := fun y : Bin => y.level == lvl && onT T p b (kindB y) y.sign) (fun k hk => h2 k (by omega))]
    repeat' first | refine go_ ?_ | refine br_ (fun hw => ?_) (fun hw => ?_) <;> try omega | fail
    refine leafS (View.eqv ?_ rfl) (ViewL.eqv ?_ (purL_rd _ _ _)) <;> simp_all [eRd, opN, opP]
def mustR (T : List Tok) (r : RS) (k : Int) (s : Str) : RS := ⟨r.x, onP T r.p r.bad k s, r.bad || !(onT T r.p r.bad k s)⟩
def rdB (rd : Nat → Nat → RS) (lvl p : Nat) (b : Bool) : RS := if b then ⟨x0, p, true⟩ else rd lvl p
def valR (v : Val) (p : Nat) : RS := ⟨.mk 1 v [] [], p, false⟩
def atomW (rd : Nat → Nat → RS) (T : List Tok) (p : Nat) : RS :=
  if isT T p 4 [40] then mustR T (rd 0 (p + 1)) 4 [41]
  else if (T.getD p default).kind = 2 then valR ⟨1, (T.getD p default).n, []⟩ (p + 1)
  else if (T.getD p default).kind = 3 then valR ⟨2, 0, (T.getD p default).s⟩ (p + 1)
  else if (T.getD p default).kind = 1 then
    (match wordS (T.getD p default).s with
    | some v => valR v (p + 1)
    | none => if nameS (T.getD p default).s then ⟨.mk 2 v0 (T.getD p default).s [], p + 1, false⟩ else ⟨x0, p, true⟩)
  else ⟨x0, p, true⟩
def thenS : Str := [116, 104, 101, 110]
def elseS : Str := [101, 108, 115, 101]
def ifA (rd : Nat → Nat → RS) (T : List Tok) (p : Nat) : RS := mustR T (rd 0 p) 1 thenS
def ifB (rd : Nat → Nat → RS) (T : List Tok) (p : Nat) : RS := mustR T (rdB rd 0 (ifA rd T p).p (ifA rd T p).bad) 1 elseS
def ifC (rd : Nat → Nat → RS) (T : List Tok) (p : Nat) : RS := rdB rd 0 (ifB rd T p).p (ifB rd T p).bad
def ifW (rd : Nat → Nat → RS) (T : List Tok) (p : Nat) : RS := ⟨.mk 16 v0 [] [(ifA rd T p).x, (ifB rd T p).x, (ifC rd T p).x], (ifC rd T p).p, (ifC rd T p).bad⟩
def rdF (T : List Tok) : Nat → Option Expr → Nat → Nat → RS
  | 0, _, _, p => ⟨x0, p, true⟩
  | f + 1, none, lvl, p =>
    if lvl = 0 then (if isT T p 1 [105, 102] then ifW (fun l q => rdF T f none l q) T (p + 1) else rdF T f none 1 p)
    else if lvl = 6 ∧ isT T p 4 [45] = true then ⟨.mk 3 v0 [] [(rdF T f none 6 (p + 1)).x], (rdF T f none 6 (p + 1)).p, (rdF T f none 6 (p + 1)).bad⟩
    else if 6 ≤ lvl then atomW (fun l q => rdF T f none l q) T p
    else if (rdF T f none (lvl + 1) p).bad then rdF T f none (lvl + 1) p
    else rdF T f (some (rdF T f none (lvl + 1) p).x) lvl (rdF T f none (lvl + 1) p).p
  | f + 1, some x, lvl, p =>
    match opB T p false lvl with
    | none => ⟨x, p, false⟩
    | some o =>
      if lvl = 3 ∨ (rdF T f none (lvl + 1) (p + 1)).bad = true then ⟨.mk o.op v0 [] [x, (rdF T f none (lvl + 1) (p + 1)).x], (rdF T f none (lvl + 1) (p + 1)).p, (rdF T f none (lvl + 1) (p + 1)).bad⟩
      else rdF T f (some (.mk o.op v0 [] [x, (rdF T f none (lvl + 1) (p + 1)).x])) lvl (rdF T f none (lvl + 1) (p + 1)).p
theorem isT_lt {T : List Tok} {p : Nat} {k : Int} {s : Str} (h : isT T p k s = true) : p < T.length := by
  simp only [isT, Bool.and_eq_true, decide_eq_true_eq] at h; exact h.1
theorem onT_lt {T : List Tok} {p : Nat} {b : Bool} {k : Int} {s : Str} (h : onT T p b k s = true) : p < T.length ∧ b = false := by
  simp only [onT, Bool.and_eq_true, Bool.not_eq_true'] at h; exact ⟨isT_lt h.2, h.1⟩
theorem opB_lt {T : List Tok} {p : Nat} {b : Bool} {lvl : Int} {o : Bin} (h : opB T p b lvl = some o) : p < T.length ∧ b = false ∧ o ∈ binL ∧ o.level = lvl := by
  have h1 := List.find?_some h
  simp only [Bool.and_eq_true, beq_iff_eq] at h1
  exact ⟨(onT_lt h1.2).1, (onT_lt h1.2).2, List.mem_of_find?_eq_some h, h1.1⟩
def Goes (n p : Nat) (r : RS) : Prop := p ≤ r.p ∧ r.p ≤ n ∧ (r.bad = false → p < r.p)
theorem goes_must {T : List Tok} {p : Nat} {r : RS} (k : Int) (s : Str) (h : Goes T.length p r) : Goes T.length p (mustR T r k s) := by
  obtain ⟨h1, h2, h3⟩ := h
  unfold mustR Goes onP
  dsimp only
  by_cases ho : onT T r.p r.bad k s = true
  · have := onT_lt ho
    have h4 := h3 this.2
    rw [if_pos ho]; refine ⟨by omega, by omega, fun _ => by omega⟩
  · rw [if_neg ho]
    refine ⟨h1, h2, fun h => ?_⟩
    simp only [Bool.not_eq_true] at ho
    rw [ho] at h; simp at h
theorem goes_rdB {T : List Tok} {rd : Nat → Nat → RS} (hrd : ∀ l q, q ≤ T.length → Goes T.length q (rd l q)) {l q : Nat} {b : Bool} (hq : q ≤ T.length) : Goes T.length q (rdB rd l q b) := by
  unfold rdB
  split
  · exact ⟨Nat.le_refl _, hq, fun h => by cases h⟩
  · exact hrd l q hq
theorem Goes.from {n p q : Nat} {r : RS} (h : Goes n q r) (hpq : p ≤ q) : Goes n p r := ⟨Nat.le_trans hpq h.1, h.2.1, fun hb => Nat.lt_of_le_of_lt hpq (h.2.2 hb)⟩
theorem goes_ifA {T : List Tok} {rd : Nat → Nat → RS} (hrd : ∀ l q, q ≤ T.length → Goes T.length q (rd l q)) {p : Nat} (hp : p ≤ T.length) : Goes T.length p (ifA rd T p) := goes_must _ _ (hrd 0 p hp)
theorem goes_ifB {T : List Tok} {rd : Nat → Nat → RS} (hrd : ∀ l q, q ≤ T.length → Goes T.length q (rd l q)) {p : Nat} (hp : p ≤ T.length) : Goes T.length (ifA rd T p).p (ifB rd T p) := goes_must _ _ (goes_rdB hrd (goes_ifA hrd hp).2.1)
theorem goes_ifC {T : List Tok} {rd : Nat → Nat → RS} (hrd : ∀ l q, q ≤ T.length → Goes T.length q (rd l q)) {p : Nat} (hp : p ≤ T.length) : Goes T.length (ifB rd T p).p (ifC rd T p) := goes_rdB hrd (goes_ifB hrd hp).2.1
theorem goes_atom {T : List Tok} {rd : Nat → Nat → RS} (hrd : ∀ l q, q ≤ T.length → Goes T.length q (rd l q)) {p : Nat} (hp : p ≤ T.length) : Goes T.length p (atomW rd T p) := by
  have stay : ∀ x, Goes T.length p ⟨x, p, true⟩ := fun x => ⟨Nat.le_refl _, hp, fun h => by cases h⟩
  have k0 : ¬ p < T.length → (T.getD p default).kind = 0 := fun h => by rw [getD_out (by omega)]; rfl
  have step : (T.getD p default).kind ≠ 0 → ∀ x, Goes T.length p ⟨x, p + 1, false⟩ := fun hk x => by
    have : p < T.length := by
      by_cases h : p < T.length
      · exact h
      · exact absurd (k0 h) hk
    exact ⟨Nat.le_succ _, this, fun _ => Nat.lt_succ_self _⟩
  unfold atomW
  split
  · rename_i h
    exact goes_must _ _ ((hrd 0 (p + 1) (isT_lt h)).from (Nat.le_succ _))
  · split
    · exact step (by omega) _
    · split
      · exact step (by omega) _
      · split
        · split
          · exact step (by omega) _
          · split
            · exact step (by omega) _
            · exact stay _
        · exact stay _
theorem goes_rd (T : List Tok) (f : Nat) : ∀ (m : Option Expr) (lvl p : Nat), p ≤ T.length → (m = none → Goes T.length p (rdF T f m lvl p)) ∧ p ≤ (rdF T f m lvl p).p ∧ (rdF T f m lvl p).p ≤ T.length := by
  induction f with
  | zero =>
    intro m lvl p hp
    simp only [rdF]
    exact ⟨fun _ => ⟨Nat.le_refl _, hp, fun h => by cases h⟩, Nat.le_refl _, hp⟩
  | succ f ih =>
    intro m lvl p hp
    have hrd : ∀ l q, q ≤ T.length → Goes T.length q (rdF T f none l q) := fun l q hq => (ih none l q hq).1 rfl
    cases m with
    | none =>
      have : Goes T.length p (rdF T (f + 1) none lvl p) := by
        simp only [rdF]
        split
        · split
          · rename_i h
            have h1 := isT_lt h
            have a := goes_ifA hrd (p := p + 1) h1
            have b := goes_ifB hrd (p := p + 1) h1
            have c := goes_ifC hrd (p := p + 1) h1
            exact (show Goes T.length (ifB (fun l q => rdF T f none l q) T (p + 1)).p (ifW (fun l q => rdF T f none l q) T (p + 1)) from ⟨c.1, c.2.1, c.2.2⟩).from (Nat.le_trans (Nat.le_succ _) (Nat.le_trans a.1 b.1))
          · exact hrd 1 p hp
        · split
          · rename_i h
            have h1 := isT_lt h.2
            have c := hrd 6 (p + 1) h1
            exact (show Goes T.length (p + 1) ⟨_, _, _⟩ from ⟨c.1, c.2.1, c.2.2⟩).from (Nat.le_succ _)
          · split
            · exact goes_atom hrd hp
            · split
              · exact hrd _ _ hp
              · rename_i hb
                have a := hrd (lvl + 1) p hp
                have b := ih (some (rdF T f none (lvl + 1) p).x) lvl _ a.2.1
                have := a.2.2 (by simpa using hb)
                exact ⟨by omega, b.2.2, fun _ => by omega⟩
      exact ⟨fun _ => this, this.1, this.2.1⟩
    | some x =>
      refine ⟨fun h => (by cases h), ?_⟩
      simp only [rdF]
      split
      · exact ⟨Nat.le_refl _, hp⟩
      · rename_i o ho
        have h1 := (opB_lt ho).1
        have a := hrd (lvl + 1) (p + 1) h1
        split
        · exact ⟨by have := a.1; dsimp only; omega, a.2.1⟩
        · have b := ih (some (.mk o.op v0 [] [x, (rdF T f none (lvl + 1) (p + 1)).x])) lvl _ a.2.1
          exact ⟨by have := a.1; omega, b.2.2⟩
theorem viewX {σ : Store} {op vk vn : Int} {vs s : Str} {L : AV} {l : List Expr} (hL : View σ L (.lst false EX (l.map eExpr))) : View σ (.agg [I op, I vk, I vn, .str vs, .str s, L]) (eExpr (.mk op ⟨vk, vn, vs⟩ s l)) := by
  rw [eExpr_eq]
  refine View.agg' (.cons (.refl _ rfl) (.cons (.refl _ rfl) (.cons (.refl _ rfl) (.cons (.refl _ rfl) (.cons (.refl _ rfl) (.cons ?_ (.nil _)))))))
  exact hL
def RdC (T : List Tok) (n : FuncId) (rd : Nat → Nat → RS) (l q : Nat) : Prop := CallM Tryz.prog n 0 [I l] (eRd T q false) (eRd T (rd l q).p (rd l q).bad) (eExpr (rd l q).x)
theorem syntax_on_is (T : List Tok) (p : Nat) (k : Int) (s : Str) (o : Bool) (hk : k ≠ 0) (hp : p ≤ 2 ^ 61) (h : isT T p k s = o) : CallM Tryz.prog n_syntax_reader_on 0 [I k, .str s] (eRd T p false) (eRd T (if o then p + 1 else p) false) (.bool o) := by
  have := syntax_on T p false k s hk hp
  unfold onP at this
  rw [show onT T p false k s = o from h] at this
  cases o
  · simpa using this
  · simpa using this
theorem syntax_atom (T : List Tok) (p : Nat) (rd : Nat → Nat → RS) (hp : p ≤ T.length) (hT : T.length ≤ 2 ^ 60) (hs : ∀ q, (T.getD q default).s.length ≤ 2 ^ 62)
    (hrd : isT T p 4 [40] = true → RdC T n_syntax_reader_read rd 0 (p + 1) ∧ (rd 0 (p + 1)).p ≤ T.length) :
    CallM Tryz.prog n_syntax_reader_atom 0 [] (eRd T p false) (eRd T (atomW rd T p).p (atomW rd T p).bad) (eExpr (atomW rd T p).x) := by
  have hon := fun o (ho : isT T p 4 [40] = o) => syntax_on_is T p 4 [40] o (by decide) (by omega) ho
  have hnw := syntax_now T p false
  have hsp := hs p
  simp only [nowT, Bool.false_eq_true, if_false] at hnw
  by_cases hpar : isT T p 4 [40] = true
  · have ha : atomW rd T p = mustR T (rd 0 (p + 1)) 4 [41] := by unfold atomW; rw [if_pos hpar]
    obtain ⟨hr, hb⟩ := hrd hpar
    unfold RdC at hr
    rw [ha]
    have hon := hon true hpar
    generalize rd 0 (p + 1) = r at *
    have hm := syntax_must T r.p r.bad 4 [41] (by decide) (by omega)
    rw [eExpr_eq] at hr
    simp only [eRd, if_true] at hon hr hm
    generalize hE : eExpr _ = E
    refine CallM.of_one (of_syntax_reader_atom (by simp) ?_) rfl (purL_rd _ _ _)
    unfold b_syntax_reader_atom WpR
    intro Q hQr hQn hQp
    repeat' first | refine go_ ?_ | refine cm_ hon ?_ | refine cm_ hr ?_ | refine cm_ hm ?_ | refine br_ (fun hw => ?_) (fun hw => ?_) <;> try omega | fail
    exact leafS (View.eqv (by rw [← hE]; exact (eExpr_eq _).symm) (by rw [← hE]; exact pur_eExpr _)) (ViewL.refl (purL_rd _ _ _))
  have hpar' : isT T p 4 [40] = false := by simpa using hpar
  have hon := hon false hpar'
  simp only [eRd, Bool.false_eq_true, if_false] at hon hnw
  have ha : atomW rd T p = (if (T.getD p default).kind = 2 then valR ⟨1, (T.getD p default).n, []⟩ (p + 1)
  else if (T.getD p default).kind = 3 then valR ⟨2, 0, (T.getD p default).s⟩ (p + 1)
  else if (T.getD p default).kind = 1 then
    (match wordS (T.getD p default).s with
    | some v => valR v (p + 1)
    | none => if nameS (T.getD p default).s then ⟨.mk 2 v0 (T.getD p default).s [], p + 1, false⟩ else ⟨x0, p, true⟩)
  else ⟨x0, p, true⟩ : RS) := by unfold atomW; rw [if_neg hpar] <;> rfl
  rw [ha]
  clear ha hrd hs hpar hpar'
  generalize T.getD p default = t at *
  obtain ⟨tk, ts, tn, tp⟩ := t
  simp only [eTok] at hnw hsp ⊢
  have hname := lex_Name ts hsp
  have hword := syntax_word_ ts
  by_cases h2 : tk = 2
  · rw [if_pos h2]
    generalize hE : eExpr _ = E
    refine CallM.of_one (of_syntax_reader_atom (by simp) ?_) rfl (purL_rd _ _ _)
    unfold b_syntax_reader_atom WpR
    intro Q hQr hQn hQp
    repeat' first | refine go_ ?_ | refine cm_ hon ?_ | refine cm_ hnw ?_ | refine br_ (fun hw => ?_) (fun hw => ?_) <;> try omega | fail
    exact leafS (by rw [← hE]; exact viewX (.nils _)) (ViewL.eqv rfl (purL_rd T (p + 1) false))
  rw [if_neg h2]
  by_cases h3 : tk = 3
  · rw [if_pos h3]
    generalize hE : eExpr _ = E
    refine CallM.of_one (of_syntax_reader_atom (by simp) ?_) rfl (purL_rd _ _ _)
    unfold b_syntax_reader_atom WpR
    intro Q hQr hQn hQp
    repeat' first | refine go_ ?_ | refine cm_ hon ?_ | refine cm_ hnw ?_ | refine br_ (fun hw => ?_) (fun hw => ?_) <;> try omega | fail
    exact leafS (by rw [← hE]; exact viewX (.nils _)) (ViewL.eqv rfl (purL_rd T (p + 1) false))
  rw [if_neg h3]
  by_cases h1 : tk = 1
  case neg =>
    rw [if_neg h1]
    generalize hE : eExpr _ = E
    refine CallM.of_one (of_syntax_reader_atom (by simp) ?_) rfl (purL_rd _ _ _)
    unfold b_syntax_reader_atom WpR
    intro Q hQr hQn hQp
    repeat' first | refine go_ ?_ | refine cm_ hon ?_ | refine cm_ hnw ?_ | refine br_ (fun hw => ?_) (fun hw => ?_) <;> try omega | fail
    exact leafS (by rw [← hE]; exact viewX (.nils _)) (ViewL.eqv rfl (purL_rd T p true))
  rw [if_pos h1]
  cases hw : wordS ts with
  | some v =>
    rw [hw] at hword
    simp only [Option.getD_some, Option.isSome_some, eVal] at hword
    dsimp only
    generalize hE : eExpr _ = E
    refine CallM.of_one (of_syntax_reader_atom (by simp) ?_) rfl (purL_rd _ _ _)
    unfold b_syntax_reader_atom WpR
    intro Q hQr hQn hQp
    repeat' first | refine go_ ?_ | refine cm_ hon ?_ | refine cm_ hnw ?_ | refine cf_ hword ?_ | refine cf_ hname ?_ | refine br_ (fun hw => ?_) (fun hw => ?_) <;> try omega | fail
    exact leafS (by rw [← hE]; exact viewX (.nils _)) (ViewL.eqv rfl (purL_rd T (p + 1) false))
  | none =>
    rw [hw] at hword
    simp only [Option.getD_none, Option.isSome_none, eVal, v0] at hword
    dsimp only
    cases hn : nameS ts with
    | true =>
      rw [hn] at hname
      simp only [if_true]
      generalize hE : eExpr _ = E
      refine CallM.of_one (of_syntax_reader_atom (by simp) ?_) rfl (purL_rd _ _ _)
      unfold b_syntax_reader_atom WpR
      intro Q hQr hQn hQp
      repeat' first | refine go_ ?_ | refine cm_ hon ?_ | refine cm_ hnw ?_ | refine cf_ hword ?_ | refine cf_ hname ?_ | refine br_ (fun hw => ?_) (fun hw => ?_) <;> try omega | fail
      exact leafS (by rw [← hE]; exact viewX (.nils _)) (ViewL.eqv rfl (purL_rd T (p + 1) false))
    | false =>
      rw [hn] at hname
      simp only [Bool.false_eq_true, if_false]
      generalize hE : eExpr _ = E
      refine CallM.of_one (of_syntax_reader_atom (by simp) ?_) rfl (purL_rd _ _ _)
      unfold b_syntax_reader_atom WpR
      intro Q hQr hQn hQp
      repeat' first | refine go_ ?_ | refine cm_ hon ?_ | refine cm_ hnw ?_ | refine cf_ hword ?_ | refine cf_ hname ?_ | refine br_ (fun hw => ?_) (fun hw => ?_) <;> try omega | fail
      exact leafS (by rw [← hE]; exact viewX (.nils _)) (ViewL.eqv rfl (purL_rd T p true))
theorem rdB_call {T : List Tok} {n : FuncId} {rd : Nat → Nat → RS} {l q : Nat} {b : Bool} (h : b = false → RdC T n rd l q) (hbad : CallM Tryz.prog n 0 [I l] (eRd T q true) (eRd T q true) (eExpr x0)) :
    CallM Tryz.prog n 0 [I l] (eRd T q b) (eRd T (rdB rd l q b).p (rdB rd l q b).bad) (eExpr (rdB rd l q b).x) := by
  cases b with
  | true => exact hbad
  | false => exact h rfl
theorem syntax_branch (T : List Tok) (p : Nat) (rd : Nat → Nat → RS) (hp : p ≤ T.length) (hT : T.length ≤ 2 ^ 60) (hgo : ∀ l q, q ≤ T.length → Goes T.length q (rd l q))
    (hbad : ∀ q, CallM Tryz.prog n_syntax_reader_read 0 [I 0] (eRd T q true) (eRd T q true) (eExpr x0)) (hrd : ∀ q, p ≤ q → q ≤ T.length → RdC T n_syntax_reader_read rd 0 q) :
    CallM Tryz.prog n_syntax_reader_branch 0 [] (eRd T p false) (eRd T (ifW rd T p).p (ifW rd T p).bad) (eExpr (ifW rd T p).x) := by
  have ga := goes_ifA hgo hp
  have gb := goes_ifB hgo hp
  have g0 := hgo 0 p hp
  have g1 := goes_rdB hgo (l := 0) (b := (ifA rd T p).bad) ga.2.1
  have c1 := hrd p (Nat.le_refl _) hp
  have m1 := syntax_must T (rd 0 p).p (rd 0 p).bad 1 thenS (by decide) (by have := g0.2.1; omega)
  have c2 := rdB_call (l := 0) (q := (ifA rd T p).p) (b := (ifA rd T p).bad) (fun _ => hrd _ ga.1 ga.2.1) (hbad _)
  have m2 := syntax_must T (rdB rd 0 (ifA rd T p).p (ifA rd T p).bad).p (rdB rd 0 (ifA rd T p).p (ifA rd T p).bad).bad 1 elseS (by decide) (by have := g1.2.1; omega)
  have c3 := rdB_call (l := 0) (q := (ifB rd T p).p) (b := (ifB rd T p).bad) (fun _ => hrd _ (Nat.le_trans ga.1 gb.1) gb.2.1) (hbad _)
  change CallM _ _ _ _ _ (eRd T (ifA rd T p).p (ifA rd T p).bad) _ at m1
  change CallM _ _ _ _ _ (eRd T (ifB rd T p).p (ifB rd T p).bad) _ at m2
  change CallM _ _ _ _ _ (eRd T (ifC rd T p).p (ifC rd T p).bad) (eExpr (ifC rd T p).x) at c3
  unfold RdC at c1
  simp only [ifW]
  have xa : (ifA rd T p).x = (rd 0 p).x := rfl
  have xb : (ifB rd T p).x = (rdB rd 0 (ifA rd T p).p (ifA rd T p).bad).x := rfl
  rw [xa, xb]
  generalize rdB rd 0 (ifA rd T p).p (ifA rd T p).bad = rb at *
  generalize ifA rd T p = ra at *
  generalize ifB rd T p = rb2 at *
  generalize ifC rd T p = rc at *
  generalize rd 0 p = r1 at *
  rw [eExpr_eq] at c1 c2 c3
  simp only [eRd, thenS, elseS] at c1 m1 c2 m2 c3
  generalize hE : eExpr _ = E
  refine CallM.of_one (of_syntax_reader_branch (by simp) ?_) rfl (purL_rd _ _ _)
  unfold b_syntax_reader_branch WpR
  intro Q hQr hQn hQp
  repeat' first | refine go_ ?_ | refine cm_ c1 ?_ | refine cm_ m1 ?_ | refine cm_ c2 ?_ | refine cm_ m2 ?_ | refine cm_ c3 ?_ | refine br_ (fun hw => ?_) (fun hw => ?_) <;> try omega | fail
  refine leafS ?_ (ViewL.refl (purL_rd _ _ _))
  rw [← hE]
  refine viewX ?_
  rw [List.map_cons, List.map_cons, List.map_cons, List.map_nil, eExpr_eq, eExpr_eq, eExpr_eq]
  refine View.weak _ _ _ ?_
  simp
end Go.Proofs.YthkhdedadacakaaGreatDoor
