/- Part of a proof: see Root. -/
import Derived.Test.YtigjkomalhjhdaaGreatDoorW20
import Derived.WalkKit
import Derived.ProofKit
import Derived.OpenShut
import Derived.ReadAgain
import Derived.Deep.SlicePairs
set_option linter.unnecessarySimpa false
set_option linter.unusedSimpArgs false
set_option linter.unusedVariables false
namespace Go.AM.B
def IsQ (x : AExit) (t : Tr AV) (s : St) : AQ := fun x' e σ => x' = x ∧ e = t.get .undef ∧ σ = s.abs
theorem updK_ok {t : Tr AV} {d : Option Nat} {v : AV} {K : Tr AV → Bool} (h : updK t d v K = true) : ∃ t', t'.get .undef = upd (t.get .undef) d v ∧ K t' = true := by
  cases d with
  | none => exact ⟨t, rfl, h⟩
  | some d =>
    obtain ⟨t', h1, h2⟩ := Tr.setK_ok _ _ _ _ _ _ (show Tr.setK .undef 60 t d v K = true from h)
    exact ⟨t', funext fun m => h2 m, h1⟩
theorem gdP_ok {v : AV} {b : Bool} {K : Bool → Bool} (h : gdP v b K = true) : (∃ x, v = .bool x ∧ K (x == b) = true) ∨ (v = .tup [] ∧ K false = true) := by
  cases v <;> first | exact no h rfl | skip
  case bool x => replace h : K (beqB x b) = true := h; rw [beqB_eq] at h; exact .inl ⟨x, rfl, h⟩
  case tup vs => obtain ⟨h1, h2⟩ := bK_iff.1 (show bK (isNilL vs) (K false) = true from h); rw [isNilL_iff] at h1; subst h1; exact .inr ⟨rfl, h2⟩
section
variable {c : Ctx}
theorem opsK_ex (hc : CtxOk c) : ∀ (ops : List GOp) (Q : QK) (t : Tr AV) (s : St), opsK ops c Q t s = true → ∃ x t' s', Q x t' s' = true ∧ runOps c.P (IsQ x t' s') ops (t.get .undef) s.abs
  | [], Q, t, s, h => ⟨.normal, t, s, h, rfl, rfl, rfl⟩
  | ⟨o, d, gd⟩ :: r, Q, t, s, h => by
    have go : goOp o d (opsK r c) c Q t s = true → ∃ x t' s', Q x t' s' = true ∧ o.run c.P (t.get .undef) s.abs (fun v σ' => runOps c.P (IsQ x t' s') r (upd (t.get .undef) d v) σ') (fun v σ' => IsQ x t' s' (.panic v) (t.get .undef) σ') := fun h => by
      obtain ⟨out, s1, h1, h2⟩ := opK_ex hc (show AOp.K o c t s (fun v s' => updK t d v fun t' => opsK r c Q t' s') (fun v s' => Q (.panic v) t s') = true from h)
      cases out with
      | ret v =>
        obtain ⟨t1, e1, h3⟩ := updK_ok (show (updK t d v fun t' => opsK r c Q t' s1) = true from h1)
        obtain ⟨x, t', s', h4, h5⟩ := opsK_ex hc r Q t1 s1 h3
        refine ⟨x, t', s', h4, run_mono ?_ ?_ h2⟩
        · rintro v' σ' ⟨e2, rfl⟩
          cases e2
          rw [← e1]; exact h5
        · rintro v' σ' ⟨e2, _⟩; cases e2
      | panic v =>
        refine ⟨.panic v, t, s1, h1, run_mono ?_ ?_ h2⟩
        · rintro v' σ' ⟨e2, _⟩; cases e2
        · rintro v' σ' ⟨e2, rfl⟩; cases e2; exact ⟨rfl, rfl, rfl⟩
    have sk : skOp d (opsK r c) Q t s = true → ∃ x t' s', Q x t' s' = true ∧ runOps c.P (IsQ x t' s') r (upd (t.get .undef) d (.tup [])) s.abs := fun h => by
      obtain ⟨t1, e1, h3⟩ := updK_ok (show (updK t d (.tup []) fun t' => opsK r c Q t' s) = true from h)
      obtain ⟨x, t', s', h4, h5⟩ := opsK_ex hc r Q t1 s h3
      exact ⟨x, t', s', h4, by rw [← e1]; exact h5⟩
    cases gd with
    | none => exact go h
    | some p =>
      obtain ⟨k, b⟩ := p
      replace h : (Tr.getK .undef t k fun v => gdP v b fun y => iK y (goOp o d (opsK r c) c Q t s) (skOp d (opsK r c) Q t s)) = true := h
      rw [Tr.getK_eq] at h
      simp only [runOps]
      rcases gdP_ok h with ⟨y, hy, h1⟩ | ⟨hy, h1⟩
      · rw [iK_eq] at h1
        rw [hy]
        dsimp only
        by_cases hyb : y = b
        · subst hyb
          rw [if_pos (by simp)] at h1
          obtain ⟨x, t', s', h2, h3⟩ := go h1
          have hu : upd (t.get .undef) (some k) (.bool y) = t.get .undef := by
            funext m; simp only [upd]; split
            · rename_i e; rw [e, hy]
            · rfl
          exact ⟨x, t', s', h2, fun _ => by rw [hu]; exact h3, fun hn => (by cases y <;> cases hn)⟩
        · rw [if_neg (by simpa using hyb)] at h1
          obtain ⟨x, t', s', h2, h3⟩ := sk h1
          have hyb : y = !b := by cases y <;> cases b <;> simp_all
          subst hyb
          have hu : upd (t.get .undef) (some k) (.bool !b) = t.get .undef := by
            funext m; simp only [upd]; split
            · rename_i e; rw [e, hy]
            · rfl
          exact ⟨x, t', s', h2, fun hn => (by cases b <;> cases hn), fun _ => by rw [hu]; exact h3⟩
      · obtain ⟨x, t', s', h2, h3⟩ := sk h1
        rw [hy]
        exact ⟨x, t', s', h2, h3⟩
theorem objK_eq (x : AV) : objK x = x.obj := by
  cases x <;> first | rfl | skip
  case asl el p n => cases p <;> rfl
theorem apart1_ok {x y : AV} (h : apart1 x y = true) : apartA x y := by
  intro l h1 h2
  unfold apart1 at h
  rw [objK_eq, objK_eq, h1, h2] at h
  replace h : notK (Nat.beq l l) = true := h
  rw [Nat.beq_refl] at h; cases h
theorem apartK_ok : ∀ (prs : List (AX × AX)) (t : Tr AV), apartK prs t = true → apartAll prs (t.get .undef)
  | [], _, _ => trivial
  | (x, y) :: r, t, h => by
    replace h : (evK x t fun a => evK y t fun b => bK (apart1 a b) (apartK r t)) = true := h
    rw [evK_eq, evK_eq, bK_iff] at h
    exact ⟨apart1_ok h.1, apartK_ok r t h.2⟩
theorem loop_one {body : AQ → Env → Store → Prop} (hm : ∀ {Q Q' : AQ}, (∀ ex e σ, Q ex e σ → Q' ex e σ) → ∀ e σ, body Q e σ → body Q' e σ) {Q : AQ} {e : Env} {σ : Store} {t1 : Tr AV} {s1 : St} (h1 : body (IsQ .normal t1 s1) e σ) (h2 : LoopA body Q (t1.get .undef) s1.abs) : LoopA body Q e σ := by
  obtain ⟨I, ⟨n0, hI⟩, hr⟩ := h2
  refine ⟨fun m e' σ' => I m e' σ' ∨ (m = n0 + 1 ∧ e' = e ∧ σ' = σ), ⟨n0 + 1, .inr ⟨rfl, rfl, rfl⟩⟩, ?_⟩
  rintro n e' σ' (h | ⟨rfl, rfl, rfl⟩)
  · refine hm ?_ _ _ (hr n e' σ' h)
    intro ex e2 σ2 hq
    cases ex with
    | normal => obtain ⟨m, h3, h4⟩ := hq; exact ⟨m, h3, .inl h4⟩
    | _ => exact hq
  · refine hm ?_ _ _ h1
    rintro ex e2 σ2 ⟨rfl, rfl, rfl⟩
    exact ⟨n0, Nat.lt_succ_self _, .inl hI⟩
def ScopeR (l : Nat) (rest : AQ → Env → Store → Prop) (Q : AQ) (e : Env) (σ : Store) : Prop := ∃ (J : Nat → Env → Store → Prop), (∃ n, J n e σ) ∧ ∀ n e σ, J n e σ → rest (jumpQ l (fun e' σ' => ∃ m, m < n ∧ J m e' σ') Q) e σ
theorem scope_one {l : Nat} {rest : AQ → Env → Store → Prop} (hm : ∀ {Q Q' : AQ}, (∀ ex e σ, Q ex e σ → Q' ex e σ) → ∀ e σ, rest Q e σ → rest Q' e σ) {Q : AQ} {e : Env} {σ : Store} {t1 : Tr AV} {s1 : St} (h1 : rest (IsQ (.goto l) t1 s1) e σ) (h2 : ScopeR l rest Q (t1.get .undef) s1.abs) : ScopeR l rest Q e σ := by
  obtain ⟨I, ⟨n0, hI⟩, hr⟩ := h2
  refine ⟨fun m e' σ' => I m e' σ' ∨ (m = n0 + 1 ∧ e' = e ∧ σ' = σ), ⟨n0 + 1, .inr ⟨rfl, rfl, rfl⟩⟩, ?_⟩
  rintro n e' σ' (h | ⟨rfl, rfl, rfl⟩)
  · refine hm ?_ _ _ (hr n e' σ' h)
    intro ex e2 σ2 hq
    cases ex with
    | goto l' => obtain ⟨h0, m, h3, h4⟩ := hq; exact ⟨h0, m, h3, .inl h4⟩
    | _ => exact hq
  · refine hm ?_ _ _ h1
    rintro ex e2 σ2 ⟨rfl, rfl, rfl⟩
    exact ⟨rfl, n0, Nat.lt_succ_self _, .inl hI⟩
theorem codeK_ex (hc : CtxOk c) : ∀ (co : ACode) (Q : QK) (t : Tr AV) (s : St), codeK co c Q t s = true → ∃ x t' s', Q x t' s' = true ∧ wpA c.P co (IsQ x t' s') (t.get .undef) s.abs := by
  intro co
  induction co with
  | skip => intro Q t s h; exact ⟨.normal, t, s, h, rfl, rfl, rfl⟩
  | region ops => intro Q t s h; exact opsK_ex hc ops Q t s h
  | draw ops prs =>
    intro Q t s h
    obtain ⟨x, t', s', h1, h2⟩ := opsK_ex hc ops (condK prs Q) t s h
    have key : ∀ {Q0 : Prop}, (∀ ex e σ, IsQ x t' s' ex e σ → condQ prs (IsQ x t' s') ex e σ) → Q x t' s' = true → ∃ x t' s', Q x t' s' = true ∧ wpA c.P (.draw ops prs) (IsQ x t' s') (t.get .undef) s.abs := fun hm h => ⟨x, t', s', h, (wpA_mono (c := .region ops) hm _ _ h2 : wpA c.P (.region ops) _ _ _)⟩
    cases x with
    | normal =>
      replace h1 : bK (apartK prs t') (Q .normal t' s') = true := h1
      rw [bK_iff] at h1
      exact key (Q0 := True) (by rintro ex e σ ⟨rfl, rfl, rfl⟩; exact ⟨apartK_ok _ _ h1.1, rfl, rfl, rfl⟩) h1.2
    | exit i => exact key (Q0 := True) (by rintro ex e σ ⟨rfl, rfl, rfl⟩; exact ⟨rfl, rfl, rfl⟩) h1
    | goto i => exact key (Q0 := True) (by rintro ex e σ ⟨rfl, rfl, rfl⟩; exact ⟨rfl, rfl, rfl⟩) h1
    | ret => exact key (Q0 := True) (by rintro ex e σ ⟨rfl, rfl, rfl⟩; exact ⟨rfl, rfl, rfl⟩) h1
    | panic v => exact key (Q0 := True) (by rintro ex e σ ⟨rfl, rfl, rfl⟩; exact ⟨rfl, rfl, rfl⟩) h1
  | seq a b iha ihb =>
    intro Q t s h
    obtain ⟨x, t1, s1, h1, h2⟩ := iha (thenK (codeK b c Q) Q) t s h
    have out : x ≠ .normal → Q x t1 s1 = true → ∃ x t' s', Q x t' s' = true ∧ wpA c.P (.seq a b) (IsQ x t' s') (t.get .undef) s.abs := fun hx h => by
      refine ⟨x, t1, s1, h, ?_⟩
      simp only [wpA]
      exact wpA_mono (by rintro ex e σ ⟨rfl, rfl, rfl⟩; cases ex <;> first | exact absurd rfl hx | exact ⟨rfl, rfl, rfl⟩) _ _ h2
    cases x with
    | normal =>
      obtain ⟨x, t', s', h3, h4⟩ := ihb Q t1 s1 h1
      refine ⟨x, t', s', h3, ?_⟩
      simp only [wpA]
      exact wpA_mono (by rintro ex e σ ⟨rfl, rfl, rfl⟩; exact h4) _ _ h2
    | exit i => exact out (by simp) h1
    | goto i => exact out (by simp) h1
    | ret => exact out (by simp) h1
    | panic v => exact out (by simp) h1
  | cond x a b iha ihb =>
    intro Q t s h
    replace h : (evK x t fun v => onBool v fun y => iK y (codeK a c Q t s) (codeK b c Q t s)) = true := h
    rw [evK_eq] at h
    obtain ⟨y, hx, h1⟩ := onBool_ok h
    rw [iK_eq] at h1
    simp only [wpA, hx]
    cases y with
    | true => obtain ⟨x, t', s', h2, h3⟩ := iha Q t s h1; exact ⟨x, t', s', h2, fun _ => h3, fun h => (by cases h)⟩
    | false => obtain ⟨x, t', s', h2, h3⟩ := ihb Q t s h1; exact ⟨x, t', s', h2, fun h => (by cases h), fun _ => h3⟩
  | block id a ih =>
    intro Q t s h
    obtain ⟨x, t1, s1, h1, h2⟩ := ih (blockK id Q) t s h
    have key : ∀ y, Q y t1 s1 = true → (∀ e σ, IsQ y t1 s1 y e σ → blockQ id (IsQ y t1 s1) x e σ) → ∃ x t' s', Q x t' s' = true ∧ wpA c.P (.block id a) (IsQ x t' s') (t.get .undef) s.abs := fun y h hm => by
      refine ⟨y, t1, s1, h, ?_⟩
      simp only [wpA]
      exact wpA_mono (by rintro ex e σ ⟨rfl, h5, h6⟩; exact hm e σ ⟨rfl, h5, h6⟩) _ _ h2
    cases x with
    | exit i =>
      replace h1 : iK (Nat.beq i id) (Q .normal t1 s1) (Q (.exit i) t1 s1) = true := h1
      rw [iK_eq, nbeq'] at h1
      by_cases e : i = id
      · rw [if_pos (decide_eq_true e)] at h1; exact key .normal h1 (fun e' σ h => by simp only [blockQ, if_pos e]; exact h)
      · rw [if_neg (fun h => e (of_decide_eq_true h))] at h1; exact key (.exit i) h1 (fun e' σ h => by simp only [blockQ, if_neg e]; exact h)
    | normal => exact key .normal h1 (fun _ _ h => h)
    | goto i => exact key (.goto i) h1 (fun _ _ h => h)
    | ret => exact key .ret h1 (fun _ _ h => h)
    | panic v => exact key (.panic v) h1 (fun _ _ h => h)
  | loop a ih =>
    intro Q t s h
    have key : ∀ (n : Nat) (t : Tr AV) (s : St), loopB n (codeK a c) Q t s = true → ∃ x t' s', Q x t' s' = true ∧ LoopA (wpA c.P a) (IsQ x t' s') (t.get .undef) s.abs := by
      intro n
      induction n with
      | zero => intro t s h; exact no h rfl
      | succ n ihn =>
        intro t s h
        obtain ⟨x, t1, s1, h1, h2⟩ := ih (thenK (loopB n (codeK a c) Q) Q) t s h
        have out : x ≠ .normal → Q x t1 s1 = true → ∃ x t' s', Q x t' s' = true ∧ LoopA (wpA c.P a) (IsQ x t' s') (t.get .undef) s.abs := fun hx h =>
          ⟨x, t1, s1, h, fun m e σ => m = 0 ∧ e = t.get .undef ∧ σ = s.abs, ⟨0, rfl, rfl, rfl⟩, by
            rintro m e σ ⟨rfl, rfl, rfl⟩
            exact wpA_mono (by rintro ex e σ ⟨rfl, rfl, rfl⟩; cases ex <;> first | exact absurd rfl hx | exact ⟨rfl, rfl, rfl⟩) _ _ h2⟩
        cases x with
        | normal =>
          obtain ⟨x, t', s', h3, h4⟩ := ihn t1 s1 h1
          exact ⟨x, t', s', h3, loop_one (fun hm e σ h => wpA_mono hm e σ h) h2 h4⟩
        | exit i => exact out (by simp) h1
        | goto i => exact out (by simp) h1
        | ret => exact out (by simp) h1
        | panic v => exact out (by simp) h1
    exact key 1000000 t s h
  | exit id => intro Q t s h; exact ⟨.exit id, t, s, h, rfl, rfl, rfl⟩
  | ret => intro Q t s h; exact ⟨.ret, t, s, h, rfl, rfl, rfl⟩
  | scope l a r iha ihr =>
    intro Q t s h
    have key : ∀ (n : Nat) (t : Tr AV) (s : St), scopeB l n (codeK r c) Q t s = true → ∃ x t' s', Q x t' s' = true ∧ ScopeR l (wpA c.P r) (IsQ x t' s') (t.get .undef) s.abs := by
      intro n
      induction n with
      | zero => intro t s h; exact no h rfl
      | succ n ihn =>
        intro t s h
        obtain ⟨x, t1, s1, h1, h2⟩ := ihr (jumpK l (scopeB l n (codeK r c) Q) Q) t s h
        have out : (∀ i, x ≠ .goto i) → Q x t1 s1 = true → ∃ x t' s', Q x t' s' = true ∧ ScopeR l (wpA c.P r) (IsQ x t' s') (t.get .undef) s.abs := fun hx h =>
          ⟨x, t1, s1, h, fun m e σ => m = 0 ∧ e = t.get .undef ∧ σ = s.abs, ⟨0, rfl, rfl, rfl⟩, by
            rintro m e σ ⟨rfl, rfl, rfl⟩
            exact wpA_mono (by rintro ex e σ ⟨rfl, rfl, rfl⟩; cases ex <;> first | exact absurd rfl (hx _) | exact ⟨rfl, rfl, rfl⟩) _ _ h2⟩
        cases x with
        | goto i =>
          replace h1 : bK (Nat.beq i l) (scopeB l n (codeK r c) Q t1 s1) = true := h1
          rw [bK_iff, nbeq] at h1
          obtain ⟨rfl, h1⟩ := h1
          obtain ⟨x, t', s', h3, h4⟩ := ihn t1 s1 h1
          exact ⟨x, t', s', h3, scope_one (fun hm e σ h => wpA_mono hm e σ h) h2 h4⟩
        | normal => exact out (by simp) h1
        | exit i => exact out (by simp) h1
        | ret => exact out (by simp) h1
        | panic v => exact out (by simp) h1
    obtain ⟨x, t1, s1, h1, h2⟩ := iha (jumpK l (scopeB l 1000000 (codeK r c) Q) Q) t s h
    have out : (∀ i, x ≠ .goto i) → Q x t1 s1 = true → ∃ x t' s', Q x t' s' = true ∧ wpA c.P (.scope l a r) (IsQ x t' s') (t.get .undef) s.abs := fun hx h =>
      ⟨x, t1, s1, h, fun _ _ _ => False, wpA_mono (by rintro ex e σ ⟨rfl, rfl, rfl⟩; cases ex <;> first | exact absurd rfl (hx _) | exact ⟨rfl, rfl, rfl⟩) _ _ h2, fun _ _ _ h => h.elim⟩
    cases x with
    | goto i =>
      replace h1 : bK (Nat.beq i l) (scopeB l 1000000 (codeK r c) Q t1 s1) = true := h1
      rw [bK_iff, nbeq] at h1
      obtain ⟨rfl, h1⟩ := h1
      obtain ⟨x, t', s', h3, J, ⟨n0, hJ⟩, hr⟩ := key _ t1 s1 h1
      exact ⟨x, t', s', h3, J, wpA_mono (by rintro ex e σ ⟨rfl, rfl, rfl⟩; exact ⟨rfl, n0, hJ⟩) _ _ h2, hr⟩
    | normal => exact out (by simp) h1
    | exit i => exact out (by simp) h1
    | ret => exact out (by simp) h1
    | panic v => exact out (by simp) h1
  | label l => intro Q t s h; exact ⟨.normal, t, s, h, rfl, rfl, rfl⟩
  | goto l => intro Q t s h; exact ⟨.goto l, t, s, h, rfl, rfl, rfl⟩
  | rng f nt ps a b => intro Q t s h; exact no h rfl
  | stop => intro Q t s h; exact no h rfl
theorem resK_ex : ∀ (rs : List ARes) (t : Tr AV) (s : St) (K : List AV → Bool), resK rs t s K = true → ∃ vs, K vs = true ∧ ∀ K' : List AV → Prop, K' vs → resA (t.get .undef) s.abs rs K'
  | [], t, s, K, h => ⟨[], h, fun _ h => h⟩
  | .tmp n :: r, t, s, K, h => by
    replace h : (Tr.getK .undef t n fun v => resK r t s fun vs => K (v :: vs)) = true := h
    rw [Tr.getK_eq] at h
    obtain ⟨vs, h1, h2⟩ := resK_ex r t s _ h
    exact ⟨_, h1, fun K' h => h2 _ h⟩
  | .cell n ag m :: r, t, s, K, h => by
    replace h : (Tr.getK .undef t n fun p => loadK p s ag m fun v => resK r t s fun vs => K (v :: vs)) = true := h
    rw [Tr.getK_eq] at h
    obtain ⟨v, h0, h1⟩ := loadA_ex (loadK_ok (K' := fun v => (resK r t s fun vs => K (v :: vs)) = true) h fun _ h => h)
    obtain ⟨vs, h2, h3⟩ := resK_ex r t s _ h1
    refine ⟨v :: vs, h2, fun K' h => ?_⟩
    have h0 := h0 []
    rw [List.append_nil] at h0
    exact loadA_mono (fun v' e => by subst e; exact h3 _ h) h0
theorem oneK_eq (vs : List AV) (K : AV → Bool) : oneK vs K = K (oneOf vs) := by
  match vs with
  | [] => rfl
  | [_] => rfl
  | _ :: _ :: _ => rfl
theorem env0 {args : List AV} {nt : Nat} {K : Nat → Tr AV → Bool} (h : ofK .undef args 0 .nil K = true) : ∃ n t, K n t = true ∧ t.get .undef = envOf args := by
  obtain ⟨t, h1, h2⟩ := ofK_ok _ _ _ _ _ h
  refine ⟨_, t, h1, funext fun m => ?_⟩
  rw [h2]
  simp only [envOf, Nat.zero_le, true_and, Nat.zero_add, Nat.sub_zero]
  by_cases e : m < args.length
  · rw [if_pos e]
  · rw [if_neg e, List.getD_eq_getElem?_getD, List.getElem?_eq_none (by omega)]; rfl
theorem retK_ok {rs : List ARes} {K : Out → St → Bool} {x : AExit} {t : Tr AV} {s : St} (h : retK rs K x t s = true) : ∃ o, K o s = true ∧ retQ rs (fun o' σ' => o' = o ∧ σ' = s.abs) x (t.get .undef) s.abs := by
  have r : (resK rs t s fun vs => oneK vs fun v => K (.ret v) s) = true → ∃ o, K o s = true ∧ resA (t.get .undef) s.abs rs fun vs => (Out.ret (oneOf vs)) = o ∧ s.abs = s.abs := fun h => by
    obtain ⟨vs, h1, h2⟩ := resK_ex _ _ _ _ h
    rw [oneK_eq] at h1
    exact ⟨_, h1, h2 _ ⟨rfl, rfl⟩⟩
  cases x with
  | normal => exact r h
  | ret => exact r h
  | panic v => exact ⟨.panic v, h, rfl, rfl⟩
  | exit i => exact no h rfl
  | goto i => exact no h rfl
theorem mvsK_ok {K : Tr AV → Bool} : ∀ (l : List (AX × Option Nat)) (t : Tr AV), mvsK l t K = true → ∃ t', K t' = true ∧ ∀ K' : Env → Prop, K' (t'.get .undef) → mvsA l K' (t.get .undef)
  | [], t, h => ⟨t, h, fun _ h => h⟩
  | (x, d) :: r, t, h => by
    replace h : (evK x t fun v => updK t d v fun t' => mvsK r t' K) = true := h
    rw [evK_eq] at h
    obtain ⟨t1, e1, h1⟩ := updK_ok h
    obtain ⟨t', h2, h3⟩ := mvsK_ok r t1 h1
    exact ⟨t', h2, fun K' h => by have := h3 K' h; rw [e1] at this; exact this⟩
theorem defK_ex (hc : CtxOk c) {n : FuncId} {args : List AV} {pv : Option AV} {s : St} {K : St → Bool} (h : defK c n args (pv.getD .nili) s K = true) : ∃ s', K s' = true ∧ DefA c.P n args pv s.abs fun σ' => σ' = s'.abs := by
  unfold defK at h
  generalize hr : tblR c.P c.hs n = ro at h
  cases ro with
  | none => exact no h rfl
  | some rf =>
    cases rf with | mk nt k mvs rest =>
    replace h : bK (lenK args 0 fun m => Nat.ble m nt) (ofK .undef args 0 .nil fun _ t => Tr.setK .undef 60 t k (pv.getD .nili) fun t => mvsK mvs t fun t => codeK rest c (endK K) t s) = true := h
    rw [bK_iff, len0, nble, decide_eq_true_eq] at h
    obtain ⟨_, t, h1, e1⟩ := env0 (nt := nt) h.2
    obtain ⟨t1, h2, h3⟩ := Tr.setK_ok _ _ _ _ _ _ h1
    obtain ⟨t2, h4, h5⟩ := mvsK_ok _ _ h2
    obtain ⟨x, t3, s', h6, h7⟩ := codeK_ex hc _ _ _ _ h4
    have e2 : t1.get .undef = upd (envOf args) (some k) (pv.getD .nili) := by
      funext m; rw [h3, e1]; rfl
    have hx : (x = .normal ∨ x = .ret) ∧ K s' = true := by
      cases x with
      | normal => exact ⟨.inl rfl, h6⟩
      | ret => exact ⟨.inr rfl, h6⟩
      | _ => exact no h6 rfl
    refine ⟨s', hx.2, ?_⟩
    unfold tblR at hr
    split at hr
    · rename_i fn hfn
      split at hr
      · cases hr
      · rename_i hnm
        refine DefA.of_wp hfn hnm hr h.1 ?_
        show mvsA mvs (fun e => wpA c.P rest (endR fun σ' => σ' = s'.abs) e s.abs) (upd (envOf args) (some k) (pv.getD .nili))
        rw [← e2]
        refine h5 _ (wpA_mono ?_ _ _ h7)
        rintro ex e σ ⟨rfl, rfl, rfl⟩
        rcases hx.1 with rfl | rfl <;> exact rfl
    · cases hr
theorem dfrK_ok (hc : CtxOk c) {rs : List ARes} {K : Out → St → Bool} {n : FuncId} {args : List AV} {x : AExit} {t : Tr AV} {s : St} (h : dfrK c rs K n args x t s = true) : ∃ o s', K o s' = true ∧ dfrQ c.P rs (fun o' σ' => o' = o ∧ σ' = s'.abs) n args x (t.get .undef) s.abs := by
  have r : ∀ pv : Option AV, (defK c n args (pv.getD .nili) s fun s' => resK rs t s' fun vs => oneK vs fun v => K (.ret v) s') = true → ∃ o s', K o s' = true ∧ DefA c.P n args pv s.abs fun σ' => resA (t.get .undef) σ' rs fun vs => (Out.ret (oneOf vs)) = o ∧ σ' = s'.abs := fun pv h => by
    obtain ⟨s', h1, h2⟩ := defK_ex hc h
    obtain ⟨vs, h3, h4⟩ := resK_ex _ _ _ _ h1
    rw [oneK_eq] at h3
    refine ⟨_, s', h3, h2.1, fun g w us u a1 a2 a3 a4 => (h2.2 g w us u a1 a2 a3 a4).mono ?_⟩
    rintro e u' w' ⟨g', σ', v, b1, b2, b3, b4, rfl⟩
    exact ⟨g', _, v, b1, b2, b3, b4, h4 _ ⟨rfl, rfl⟩⟩
  cases x with
  | normal => exact r none h
  | ret => exact r none h
  | panic v => exact r (some v) h
  | exit i => exact no h rfl
  | goto i => exact no h rfl
theorem dcodeK_ex (hc : CtxOk c) {rs : List ARes} {K : Out → St → Bool} : ∀ (d : DCode) (t : Tr AV) (s : St), dcodeK d c (retK rs K) (dfrK c rs K) t s = true → ∃ o s', K o s' = true ∧ d.wp c.P (retQ rs fun o' σ' => o' = o ∧ σ' = s'.abs) (dfrQ c.P rs fun o' σ' => o' = o ∧ σ' = s'.abs) (t.get .undef) s.abs := by
  intro d
  induction d with
  | seq a d ih =>
    intro t s h
    obtain ⟨x, t1, s1, h1, h2⟩ := codeK_ex hc a _ t s (show codeK a c (thenK (dcodeK d c (retK rs K) (dfrK c rs K)) (retK rs K)) t s = true from h)
    have out : x ≠ .normal → retK rs K x t1 s1 = true → ∃ o s', K o s' = true ∧ (DCode.seq a d).wp c.P (retQ rs fun o' σ' => o' = o ∧ σ' = s'.abs) (dfrQ c.P rs fun o' σ' => o' = o ∧ σ' = s'.abs) (t.get .undef) s.abs := fun hx h => by
      obtain ⟨o, h3, h4⟩ := retK_ok h
      refine ⟨o, s1, h3, wpA_mono ?_ _ _ h2⟩
      rintro ex e σ ⟨rfl, rfl, rfl⟩
      cases ex <;> first | exact absurd rfl hx | exact h4
    cases x with
    | normal =>
      obtain ⟨o, s', h3, h4⟩ := ih t1 s1 h1
      exact ⟨o, s', h3, wpA_mono (by rintro ex e σ ⟨rfl, rfl, rfl⟩; exact h4) _ _ h2⟩
    | exit i => exact out (by simp) h1
    | goto i => exact out (by simp) h1
    | ret => exact out (by simp) h1
    | panic v => exact out (by simp) h1
  | dfr ops y rest =>
    intro t s h
    obtain ⟨x, t1, s1, h1, h2⟩ := opsK_ex hc ops _ t s (show opsK ops c (thenK (fun t s => evK y t fun v => onFn v fun f a b => onFunc f fun n => appendK a b fun az => codeK rest c (dfrK c rs K n az) t s) (retK rs K)) t s = true from h)
    have mono : ∀ {Q' : AQ}, (∀ ex e σ, IsQ x t1 s1 ex e σ → Q' ex e σ) → runOps c.P Q' ops (t.get .undef) s.abs := fun hm => (wpA_mono (c := .region ops) hm _ _ h2 : wpA c.P (.region ops) _ _ _)
    have out : x ≠ .normal → retK rs K x t1 s1 = true → ∃ o s', K o s' = true ∧ (DCode.dfr ops y rest).wp c.P (retQ rs fun o' σ' => o' = o ∧ σ' = s'.abs) (dfrQ c.P rs fun o' σ' => o' = o ∧ σ' = s'.abs) (t.get .undef) s.abs := fun hx h => by
      obtain ⟨o, h3, h4⟩ := retK_ok h
      refine ⟨o, s1, h3, mono ?_⟩
      rintro ex e σ ⟨rfl, rfl, rfl⟩
      cases ex <;> first | exact absurd rfl hx | exact h4
    cases x with
    | normal =>
      replace h1 : (evK y t1 fun v => onFn v fun f a b => onFunc f fun n => appendK a b fun az => codeK rest c (dfrK c rs K n az) t1 s1) = true := h1
      rw [evK_eq] at h1
      obtain ⟨f, a, b, hv, h3⟩ := onFn_ok h1
      obtain ⟨n, rfl, h4⟩ := onFunc_ok h3
      rw [appendK_eq] at h4
      obtain ⟨x2, t2, s2, h5, h6⟩ := codeK_ex hc rest _ t1 s1 h4
      obtain ⟨o, s', h7, h8⟩ := dfrK_ok hc h5
      refine ⟨o, s', h7, mono ?_⟩
      rintro ex e σ ⟨rfl, rfl, rfl⟩
      show (match y.ev (t1.get .undef) with | .fn (.func n) first cap => wpA c.P rest (dfrQ c.P rs _ n (first ++ cap)) (t1.get .undef) s1.abs | _ => False)
      rw [hv]
      exact wpA_mono (by rintro ex e σ ⟨rfl, rfl, rfl⟩; exact h8) _ _ h6
    | exit i => exact out (by simp) h1
    | goto i => exact out (by simp) h1
    | ret => exact out (by simp) h1
    | panic v => exact out (by simp) h1
end
def ExtOk (P : Program) (ex : FuncId → Option XFun) : Prop := ∀ n f, ex n = some f → ∀ args s K, f args s K = true → ∃ r, K r = true ∧ CallQ P n args s.abs r
theorem callK_ok {P : Program} {ne : FuncId → Bool} (hne : NeOk P ne) (hs : FuncId → Hints) (df : FuncId → Bool) {ex : FuncId → Option XFun} (hx : ExtOk P ex) : ∀ (f : Nat) (n : FuncId) (args : List AV) (s : St) (K : Out → St → Bool), callK P ne hs df ex f n args s K = true → ∃ o s', K o s' = true ∧ CallA P n args s.abs fun o' σ' => o' = o ∧ σ' = s'.abs := by
  intro f
  induction f with
  | zero => intro n args s K h; exact no h rfl
  | succ f ih =>
    intro n args s K h
    have hc : CtxOk ⟨P, ne, hs, callK P ne hs df ex f⟩ := ⟨hne, ih⟩
    replace h : @Option.rec XFun (fun _ => Bool) (callB P ne hs df (callK P ne hs df ex f) n args s K) (fun f => f args s fun r => K (.ret r) s) (ex n) = true := h
    cases hxn : ex n with
    | some xf =>
      rw [hxn] at h
      obtain ⟨r, h1, h2⟩ := hx n xf hxn _ _ _ (show xf args s (fun r => K (.ret r) s) = true from h)
      exact ⟨.ret r, s, h1, h2⟩
    | none =>
    rw [hxn] at h
    replace h : callB P ne hs df (callK P ne hs df ex f) n args s K = true := h
    unfold callB at h
    rw [iK_eq] at h
    split at h
    · generalize hr : tblD P hs n = ro at h
      cases ro with
      | none => exact no h rfl
      | some af =>
        cases af with | mk nt rs body =>
        replace h : bK (lenK args 0 fun k => Nat.ble k nt) (ofK .undef args 0 .nil fun _ t => dcodeK body ⟨P, ne, hs, callK P ne hs df ex f⟩ (retK rs K) (dfrK ⟨P, ne, hs, callK P ne hs df ex f⟩ rs K) t s) = true := h
        rw [bK_iff, len0, nble, decide_eq_true_eq] at h
        obtain ⟨_, t, h1, e1⟩ := env0 (nt := nt) h.2
        obtain ⟨o, s', h2, h3⟩ := dcodeK_ex hc body t s h1
        refine ⟨o, s', h2, ?_⟩
        unfold tblD at hr
        split at hr
        · rename_i fn hfn
          split at hr
          · cases hr
          · rename_i hnm
            refine CallA.of_dfr hfn hnm hr h.1 ?_
            rw [← e1]; exact h3
        · cases hr
    · generalize hr : tblE P hs n = ro at h
      cases ro with
      | none => exact no h rfl
      | some af =>
        cases af with | mk nt rs body =>
        replace h : bK (lenK args 0 fun k => Nat.ble k nt) (ofK .undef args 0 .nil fun _ t => codeK body ⟨P, ne, hs, callK P ne hs df ex f⟩ (retK rs K) t s) = true := h
        rw [bK_iff, len0, nble, decide_eq_true_eq] at h
        obtain ⟨_, t, h1, e1⟩ := env0 (nt := nt) h.2
        obtain ⟨x, t1, s1, h2, h3⟩ := codeK_ex hc body _ t s h1
        obtain ⟨o, h4, h5⟩ := retK_ok h2
        refine ⟨o, s1, h4, ?_⟩
        unfold tblE at hr
        split at hr
        · rename_i fn hfn
          split at hr
          · cases hr
          · rename_i hnm
            refine CallA.of_wp hfn hnm hr h.1 ?_
            rw [← e1]
            exact wpA_mono (by rintro ex e σ ⟨rfl, rfl, rfl⟩; exact h5) _ _ h3
        · cases hr
theorem run_call {P : Program} {ne : FuncId → Bool} (hne : NeOk P ne) (hs : FuncId → Hints) (df : FuncId → Bool) {ex : FuncId → Option XFun} (hx : ExtOk P ex) {f : Nat} {n : FuncId} {args : List AV} {K : Out → St → Bool} (h : callK P ne hs df ex f n args ⟨0, .nil⟩ K = true) : ∃ o s', K o s' = true ∧ CallA P n args [] fun o' σ' => o' = o ∧ σ' = s'.abs := callK_ok hne hs df hx f n args ⟨0, .nil⟩ K h
end Go.AM.B
namespace Go.Proofs.YtigjkomalhjhdaaGreatDoor
open Go.AM
def hintL : List (Nat × Hints) := [(3, ⟨[], [], [(11, ⟨false, 1⟩)], [], [], []⟩), (24, ⟨[], [], [(4, ⟨true, 2⟩)], [], [], []⟩), (27, ⟨[], [18], [], [], [], []⟩), (29, ⟨[], [80, 34], [], [], [], []⟩), (40, ⟨[], [], [(3, ⟨false, 1⟩)], [], [], []⟩), (61, ⟨[], [], [(7, ⟨true, 2⟩)], [], [], []⟩), (68, ⟨[], [], [], [9], [], []⟩), (91, ⟨[], [], [(5, ⟨false, 1⟩)], [], [], []⟩), (92, ⟨[], [], [], [14], [], []⟩), (100, ⟨[], [], [(5, ⟨true, 6⟩)], [], [], []⟩), (103, ⟨[], [], [(3, ⟨false, 1⟩)], [], [], []⟩), (111, ⟨[], [], [], [14], [], []⟩), (127, ⟨[], [], [(8, ⟨false, 1⟩)], [], [], []⟩), (128, ⟨[], [], [(9, ⟨false, 1⟩), (12, ⟨true, 3⟩)], [], [], []⟩), (143, ⟨[], [], [], [8], [], []⟩), (146, ⟨[], [52, 61, 82], [], [], [], []⟩), (159, ⟨[], [], [(9, ⟨false, 1⟩)], [], [], []⟩), (205, ⟨[], [], [], [14], [], []⟩), (217, ⟨[], [], [(4, ⟨false, 1⟩)], [], [], []⟩), (221, ⟨[], [], [(8, ⟨false, 1⟩)], [], [], []⟩), (222, ⟨[], [], [(8, ⟨true, 3⟩)], [], [], []⟩), (224, ⟨[], [], [(6, ⟨false, 1⟩)], [], [], []⟩), (228, ⟨[], [], [(6, ⟨false, 1⟩)], [], [], []⟩), (237, ⟨[], [12], [], [], [], []⟩), (239, ⟨[], [12], [], [], [], []⟩), (250, ⟨[], [], [(6, ⟨true, 3⟩)], [], [], []⟩), (268, ⟨[], [], [], [3], [], []⟩), (273, ⟨[], [], [], [], [71, 87], []⟩), (301, ⟨[], [], [(5, ⟨true, 4⟩)], [], [], []⟩), (303, ⟨[], [], [], [], [20], []⟩), (307, ⟨[], [], [(7, ⟨false, 1⟩)], [], [], []⟩), (309, ⟨[], [], [(10, ⟨true, 3⟩)], [], [], []⟩), (334, ⟨[], [], [(5, ⟨true, 4⟩)], [], [], []⟩), (340, ⟨[], [], [(7, ⟨false, 1⟩)], [], [], []⟩), (358, ⟨[], [], [], [], [58], []⟩), (371, ⟨[], [], [], [12], [], []⟩), (375, ⟨[], [], [], [], [106], []⟩), (386, ⟨[], [], [(4, ⟨false, 1⟩)], [], [], []⟩), (390, ⟨[], [], [], [], [16], []⟩)]
def hintF (n : FuncId) : Hints := match hintL.lookup n with | some h => h | none => ⟨[], [], [], [], [], []⟩
def isDfr (n : FuncId) : Bool := Nat.beq n 179
def neF (n : FuncId) : Bool := Nat.beq n 229
theorem neF_ok : B.NeOk Tryz.prog neF := by
  intro f h
  obtain rfl : f = 229 := Nat.eq_of_beq_eq_true h
  exact ⟨_, Tryz.func229, by kernel_rfl, by kernel_rfl, by kernel_rfl, by kernel_rfl⟩
theorem callA_on {P : Program} {f : FuncId} {args : List AV} {σ τ : Store} {R R' : Out → Store → Prop} (h : CallA P f args σ R) (e : σ = τ) (hr : ∀ o σ', R o σ' → R' o σ') : CallA P f args τ R' := e ▸ h.mono hr
theorem CallF_of_calls {P : Program} {f : FuncId} {args : List AV} {r : AV} (hf : Has P f)
    (h : ∀ (g : Ghost) (w : World) (σ : Store) (vs : Array Value), Rel g w σ → args.length = vs.size → (∀ i, i < args.length → VR g w (args.getD i .undef) (vs.getD i Go.undef)) →
      ∃ v, (∀ g' w', VR g' w' r v) ∧ Calls P f vs w fun e w' => e = .returned v ∧ w'.os = w.os ∧ w'.tape = w.tape ∧ w'.output = w.output ∧ w.heap.size ≤ w'.heap.size ∧ ∀ b, b < w.heap.size → w'.heap[b]? = w.heap[b]?) : CallF P f args r := by
  intro σ
  refine ⟨hf, fun g w vs hR hl hv => ?_⟩
  obtain ⟨v, h1, h2⟩ := h g w σ vs hR hl hv
  refine h2.mono ?_
  rintro e w' ⟨rfl, k1, k2, k3, k4, k5⟩
  obtain ⟨r1, r2⟩ := hR.addNew k4 k1 k2 k3 k5
  exact ⟨.ret r, _, σ, r1, r2, h1 _ _, rfl, rfl⟩
theorem array2 {vs : Array Value} (h : 2 = vs.size) : vs = #[vs.getD 0 Go.undef, vs.getD 1 Go.undef] := by
  apply Array.ext
  · simp [← h]
  · intro i h1 h2
    simp at h2
    obtain rfl | rfl : i = 0 ∨ i = 1 := by omega
    · simp [← h]
    · simp [← h]
theorem strings_Repeat (s : List UInt8) (m : Nat) (h1 : m ≤ 1000000) (h2 : s.length * m ≤ 1000000) : CallF Tryz.prog n_strings_Repeat [.str s, .int .i64 m] (.str (Lib.repeatL s m)) := by
  refine CallF_of_calls ⟨_, Tryz.func68, by kernel_rfl, by kernel_rfl⟩ fun g w σ vs hR hl hv => ?_
  have h3 := hv 0 (by simp)
  have h4 := hv 1 (by simp)
  rw [array2 hl]
  generalize vs.getD 0 Go.undef = v at h3
  generalize vs.getD 1 Go.undef = u at h4
  simp only [List.getD_cons_zero, List.getD_cons_succ] at h3 h4
  cases h3
  cases h4
  refine ⟨.string ⟨(Lib.repeatL s m).toArray⟩, fun g' w' => VR.str _, (Tryz.strings_Repeat ⟨s.toArray⟩ m w (by omega) (by show s.toArray.size * m ≤ _; rw [List.size_toArray]; omega)).mono ?_⟩
  rintro e w' ⟨rfl, h⟩
  refine ⟨?_, h.os, h.tape, h.output, h.size, h.block⟩
  simp
noncomputable def x_repeat : B.XFun := fun args _ K => B.on2 args fun a b => B.onStr a fun t => B.onInt b fun k z => B.bK (B.kEq .i64 k) (B.natI z fun m => B.lenK t 0 fun n => B.bK (Nat.ble m 1000000) (B.bK (Nat.ble (Nat.mul n m) 1000000) (K (.str (Lib.repeatL t m)))))
theorem x_repeat_ok (args : List AV) (s : B.St) (K : AV → Bool) (h : x_repeat args s K = true) : ∃ r, K r = true ∧ CallQ Tryz.prog n_strings_Repeat args s.abs r := by
  obtain ⟨a, b, rfl, h1⟩ := B.on2_ok h
  obtain ⟨t, rfl, h2⟩ := B.onStr_ok h1
  obtain ⟨k, z, rfl, h3⟩ := B.onInt_ok h2
  rw [B.bK_iff, B.kEq_iff] at h3
  obtain ⟨rfl, h4⟩ := h3
  obtain ⟨h5, h6⟩ := B.natI_ok h4
  rw [B.len0, B.bK_iff, B.bK_iff, B.nble, B.nble, decide_eq_true_eq, decide_eq_true_eq] at h6
  refine ⟨_, h6.2.2, ?_⟩
  have := strings_Repeat t z.toNat h6.1 h6.2.1
  rw [show ((z.toNat : Nat) : Int) = z by omega] at this
  exact this _
theorem strings_Compare (a b : List UInt8) : CallF Tryz.prog n_strings_Compare [.str a, .str b] (.int .i64 (Lib.compareBytes a b)) := by
  refine CallF_of_calls ⟨_, Tryz.func321, by kernel_rfl, by kernel_rfl⟩ fun g w σ vs hR hl hv => ?_
  have h3 := hv 0 (by simp)
  have h4 := hv 1 (by simp)
  rw [array2 hl]
  generalize vs.getD 0 Go.undef = v at h3
  generalize vs.getD 1 Go.undef = u at h4
  simp only [List.getD_cons_zero, List.getD_cons_succ] at h3 h4
  cases h3
  cases h4
  refine ⟨.int .i64 (Lib.compareBytes a b), fun g' w' => .int _ _, (Tryz.strings_Compare ⟨a.toArray⟩ ⟨b.toArray⟩ w).mono ?_⟩
  rintro e w' ⟨rfl, rfl⟩
  exact ⟨rfl, rfl, rfl, rfl, Nat.le_refl _, fun _ _ => rfl⟩
noncomputable def x_compare : B.XFun := fun args _ K => B.on2 args fun a b => B.onStr a fun s => B.onStr b fun t => B.fI (Lib.compareBytes s t) fun z => K (.int .i64 z)
theorem x_compare_ok (args : List AV) (s : B.St) (K : AV → Bool) (h : x_compare args s K = true) : ∃ r, K r = true ∧ CallQ Tryz.prog n_strings_Compare args s.abs r := by
  obtain ⟨a, b, rfl, h1⟩ := B.on2_ok h
  obtain ⟨x, rfl, h2⟩ := B.onStr_ok h1
  obtain ⟨y, rfl, h3⟩ := B.onStr_ok h2
  rw [B.fI_eq] at h3
  exact ⟨_, h3, strings_Compare x y _⟩
noncomputable def isK (n m : Nat) (x y : Option B.XFun) : Option B.XFun := @Bool.rec (fun _ => Option B.XFun) y x (Nat.beq n m)
noncomputable def extF (n : FuncId) : Option B.XFun := isK n n_strings_Repeat (some x_repeat) (isK n n_strings_Compare (some x_compare) none)
theorem isK_cases {n m : Nat} {x y : Option B.XFun} {f : B.XFun} (h : isK n m x y = some f) : n = m ∧ x = some f ∨ y = some f := by
  unfold isK at h
  cases e : Nat.beq n m with
  | true => rw [e] at h; exact .inl ⟨Nat.eq_of_beq_eq_true e, h⟩
  | false => rw [e] at h; exact .inr h
theorem extF_ok : B.ExtOk Tryz.prog extF := by
  intro n f h args s K hk
  rcases isK_cases h with ⟨rfl, h⟩ | h
  · cases h; exact x_repeat_ok args s K hk
  rcases isK_cases h with ⟨rfl, h⟩ | h
  · cases h; exact x_compare_ok args s K hk
  cases h
theorem CallF.of_run {n : FuncId} {args : List AV} {r : AV} (f : Nat) (hp : AV.purL args = true) (hr : r.pur = true)
    (h : B.callK Tryz.prog neF hintF isDfr extF f n args ⟨0, .nil⟩ (fun o _ => B.onRet o fun v => B.eqN 9 v r) = true) : CallF Tryz.prog n args r := by
  obtain ⟨o, s', h1, h2⟩ := B.run_call neF_ok hintF isDfr extF_ok h
  refine CallF.of_nil (h2.mono ?_) hp
  rintro o' σ' ⟨rfl, rfl⟩
  cases o' with
  | panic v => exact absurd (show false = true from h1) Bool.false_ne_true
  | ret v => obtain rfl := B.eqN_ok 9 v r h1; exact ⟨_, rfl, View.refl _ hr⟩
theorem CallM.of_run {n : FuncId} {args cs : List AV} {r : AV} (f : Nat) (hp : AV.purL args = true) (hc : AV.purL cs = true) (hr : r.pur = true)
    (h : (B.ofK .undef cs 0 .nil fun k tr => B.St.pushK ⟨0, .nil⟩ (.cells none k tr) fun _ s1 => B.callK Tryz.prog neF hintF isDfr extF f n (.ref 0 0 :: args) s1 fun o s' => B.onRet o fun v => B.bK (B.eqN 9 v r)
      (s'.getK 0 fun o' => B.onCells o' fun T k' tr' => B.bK (B.isNoT T) (B.lstK .undef k' 0 tr' fun ds => B.eqL (B.eqN 9) ds cs))) = true) : CallM Tryz.prog n 0 args cs cs r := by
  obtain ⟨tr, h1, e1⟩ := B.ofK_nil _ h
  obtain ⟨s1, e2, h2⟩ := B.St.pushK_ok h1
  obtain ⟨o, s', h3, h4⟩ := B.callK_ok neF_ok hintF isDfr extF_ok f _ _ _ _ h2
  cases o with
  | panic v => exact absurd (show false = true from h3) Bool.false_ne_true
  | ret v =>
    replace h3 : B.bK (B.eqN 9 v r) (s'.getK 0 fun o' => B.onCells o' fun T k' tr' => B.bK (B.isNoT T) (B.lstK .undef k' 0 tr' fun ds => B.eqL (B.eqN 9) ds cs)) = true := h3
    rw [B.bK_iff] at h3
    obtain ⟨h5, h6⟩ := h3
    obtain rfl := B.eqN_ok _ _ _ h5
    obtain ⟨o', ho, h7⟩ := B.St.getK_ok h6
    obtain ⟨T, k', tr', rfl, h8⟩ := B.onCells_ok h7
    rw [B.bK_iff, B.isNoT_iff, B.lstK_eq] at h8
    obtain ⟨rfl, h8⟩ := h8
    have e3 := B.eqL_ok (B.eqN_ok 9) _ _ h8
    have e2 : s1.abs = [.cells cs] := by rw [e2]; show ([] : Store) ++ [AObj.cellsT none (B.lst .undef 0 cs.length tr)] = _; rw [e1]; rfl
    refine CallM.of_one (callA_on h4 e2 ?_) hp hc
    rintro o' σ' ⟨rfl, rfl⟩
    obtain ⟨τ, hτ⟩ : ∃ τ, s'.abs = .cells cs :: τ := by
      match hs : s'.abs, ho with
      | a :: τ, ho =>
        have ho : some a = some (AObj.cellsT none (B.lst .undef 0 k' tr')) := ho
        cases ho; rw [e3]; exact ⟨τ, rfl⟩
    exact ⟨_, _, τ, rfl, hτ, View.refl _ hr, ViewL.refl hc⟩
end Go.Proofs.YtigjkomalhjhdaaGreatDoor
namespace Go.Proofs.YtigjkomalhjhdaaGreatDoor
open Go.AM
theorem law25_lives : CallF Tryz.prog n_law25_lives [] (.bool true) := CallF.of_run 60 rfl rfl (by kernel_rfl)
end Go.Proofs.YtigjkomalhjhdaaGreatDoor
namespace Go.Proofs.YtigjkomalhjhdaaGreatDoor
open Go.AM
set_option maxRecDepth 4000
@[go_sem] theorem partT_ga (sz off n : Nat) (cs : List AV) (K : AV → Prop) (h : ¬(off = 0 ∧ n = sz)) : partT false ⟨true, sz⟩ (.agg cs) off true n (.mk : Tg K) = req (off + n ≤ sz) (.mk : Tg (K (.agg ((cs.drop off).take n)))) := by
  refine partT_g _ _ _ _ _ ?_
  rw [Bool.eq_false_iff]; intro hh; simp at hh; exact h hh
structure Act where
  kind : Int
  table : Table
  name : Str
  ver : Int
  row : List Val
  n : Int
  m : Int
deriving Inhabited
abbrev EA : El := ⟨true, 12⟩
def cAct (a : Act) : List AV := [I a.kind, .str a.table.name, eCols a.table.ins, eCols a.table.outs, I a.table.policy, I a.table.agg, eRules a.table.rules, .str a.name, I a.ver, eVals a.row, I a.n, I a.m]
def eAct (a : Act) : AV := .agg (cAct a)
attribute [go_sem] cAct eAct
def fewA (a : Act) : Bool := smallT a.table && decide (a.name.length ≤ 300) && (decide (a.row.length ≤ 12) && a.row.all valB)
theorem pur_eAct (a : Act) : (eAct a).pur = true := by simp [eAct, cAct, AV.pur, AV.purL]
theorem law25_Few (a : Act) : CallF Tryz.prog n_law25_Acts_Few [.lst true EA [eAct a]] (.bool (fewA a)) := by
  have c1 := law18_Small a.table
  have c2 := law16_Few a.row
  obtain ⟨E, hE⟩ : ∃ E, fewA a = E := ⟨_, rfl⟩
  rw [hE]
  unfold fewA at hE
  generalize smallT a.table = x at *
  generalize (decide (a.row.length ≤ 12) && a.row.all valB) = y at *
  simp only [eTable, cTable, eCols, eRules, eVals] at c1 c2
  refine CallF.of_nil (of_law25_Acts_Few (by simp) ?_) (by simp [AV.purL, AV.pur, pur_eAct])
  simp only [eAct, cAct, eCols, eRules, eVals]
  unfold b_law25_Acts_Few WpR
  intro Q hQr hQn hQp
  repeat' first | refine go_ ?_ | refine br_ (fun hw => ?_) (fun hw => ?_) <;> try omega | fail
  with_reducible refine loop_i [2, 3, 7, 8, 9, 10, 11, 12, 13, 14, 15, 16, 17, 18, 19, 20, 21, 22, 23, 24, 25, 26, 27, 28, 29, 30, 31, 32, 33, 34, 35, 36, 37] (fun q : Nat => [(3, I q)]) (fun _ => []) (fun q => q ≤ 1 ∧ (q = 1 → E = true)) (fun q => 1 - q) (0) ?_ ?_ ?_ ?_
  · simp
  · rfl
  · exact at_
  rintro i r ⟨g1, g2⟩
  by_cases hi : i < 1
  · obtain rfl : i = 0 := by omega
    repeat' first | refine go_ ?_ | refine cf_ c1 ?_ | refine cf_ c2 ?_ | refine br_ (fun hw => ?_) (fun hw => ?_) <;> try omega | fail
    all_goals first
      | exact ab_
      | (refine leafE ?_ rfl; rw [← hE, decide_eq_false (by omega)]; simp; done)
      | (refine leafE ?_ rfl; rw [← hE]; simp [*]; done)
      | (refine ⟨1, ?_, ?_, by first | rfl | (simp [go_sem]; done), ou_, at_⟩ <;> (try dsimp only)
         · exact ⟨by omega, fun _ => by rw [← hE, decide_eq_true (by omega)]; simp [*]⟩
         · omega)
  · repeat' first | refine go_ ?_ | refine br_ (fun hw => ?_) (fun hw => ?_) <;> try omega | fail
    exact leafE (by rw [g2 (by omega)]) rfl
def zMark : AV := .agg [I 0, I 0, .str [], .str []]
def zTab : AV := .agg [.str [], .nils, .nils, I 0, I 0, .nils]
def zEnt : AV := .agg [.str [], I 0, .nils, I 0, .nils, .nils]
def zMod : List AV := [.nilm, I 0, I 0, .str [], .str [], .nils]
section
variable (t : Table) (s : Str) (v k l : Int) (row : List Val)
theorem nil_Publish : CallF Tryz.prog n_model_Model_Publish [.nilp, eTable t] (.tup [I 0, I 1]) := CallF.of_run 9 (by simp [AV.purL, AV.pur]) rfl (by kernel_rfl)
theorem zero_Publish : CallM Tryz.prog n_model_Model_Publish 0 [eTable t] zMod zMod (.tup [I 0, I 1]) := CallM.of_run 9 (by simp [AV.purL, AV.pur]) rfl rfl (by kernel_rfl)
theorem nil_Version : CallF Tryz.prog n_model_Model_Version [.nilp, .str s, I v] (.tup [zTab, I 0, I 1]) := CallF.of_run 9 rfl rfl (by kernel_rfl)
theorem zero_Version : CallM Tryz.prog n_model_Model_Version 0 [.str s, I v] zMod zMod (.tup [zTab, I 0, I 1]) := CallM.of_run 9 rfl rfl rfl (by kernel_rfl)
theorem nil_List : CallF Tryz.prog n_model_Model_List [.nilp] (.tup [.nils, I 1]) := CallF.of_run 9 rfl rfl (by kernel_rfl)
theorem zero_List : CallM Tryz.prog n_model_Model_List 0 [] zMod zMod (.tup [.nils, I 1]) := CallM.of_run 9 rfl rfl rfl (by kernel_rfl)
theorem nil_Decide : CallF Tryz.prog n_model_Model_Decide [.nilp, .str s, I v, eVals row] (.tup [zEnt, I 0, I 1]) := CallF.of_run 9 (by simp [AV.purL, AV.pur]) rfl (by kernel_rfl)
theorem zero_Decide : CallM Tryz.prog n_model_Model_Decide 0 [.str s, I v, eVals row] zMod zMod (.tup [zEnt, I 0, I 1]) := CallM.of_run 9 (by simp [AV.purL, AV.pur]) rfl rfl (by kernel_rfl)
theorem nil_Log : CallF Tryz.prog n_model_Model_Log [.nilp, I k, I l] (.tup [.nils, I 1]) := CallF.of_run 9 rfl rfl (by kernel_rfl)
theorem zero_Log : CallM Tryz.prog n_model_Model_Log 0 [I k, I l] zMod zMod (.tup [.nils, I 1]) := CallM.of_run 9 rfl rfl rfl (by kernel_rfl)
theorem nil_Mark : CallF Tryz.prog n_model_Model_Mark [.nilp] (.tup [zMark, I 1]) := CallF.of_run 9 rfl rfl (by kernel_rfl)
theorem zero_Mark : CallM Tryz.prog n_model_Model_Mark 0 [] zMod zMod (.tup [zMark, I 1]) := CallM.of_run 9 rfl rfl rfl (by kernel_rfl)
theorem nil_Audit : CallF Tryz.prog n_model_Model_Audit [.nilp] (.tup [I 0, I 1]) := CallF.of_run 9 rfl rfl (by kernel_rfl)
theorem zero_Audit : CallM Tryz.prog n_model_Model_Audit 0 [] zMod zMod (.tup [I 0, I 1]) := CallM.of_run 9 rfl rfl rfl (by kernel_rfl)
theorem nil_Compact : CallF Tryz.prog n_model_Model_Compact [.nilp, I k] (I 1) := CallF.of_run 9 rfl rfl (by kernel_rfl)
theorem zero_Compact : CallM Tryz.prog n_model_Model_Compact 0 [I k] zMod zMod (I 1) := CallM.of_run 9 rfl rfl rfl (by kernel_rfl)
theorem nil_Sync : CallF Tryz.prog n_model_Model_Sync [.nilp] (I 1) := CallF.of_run 9 rfl rfl (by kernel_rfl)
theorem zero_Sync : CallM Tryz.prog n_model_Model_Sync 0 [] zMod zMod (I 1) := CallM.of_run 9 rfl rfl rfl (by kernel_rfl)
theorem nil_Copy : CallF Tryz.prog n_model_Model_Copy [.nilp] .nilp := CallF.of_run 9 rfl rfl (by kernel_rfl)
theorem zero_Copy : CallM Tryz.prog n_model_Model_Copy 0 [] zMod zMod .nilp := CallM.of_run 9 rfl rfl rfl (by kernel_rfl)
end
set_option maxHeartbeats 8000000 in
theorem law25_ModelNil (a : Act) (made : Bool) : CallF Tryz.prog n_law25_ModelNil [eAct a, .bool made] (.bool true) := by
  have c0 := law25_Few a
  have cL := law25_lives
  generalize fewA a = f at c0
  have p1 := nil_Publish a.table
  have p2 := nil_Version a.name a.ver
  have p3 := nil_List
  have p4 := nil_Decide a.name a.ver a.row
  have p5 := nil_Log a.n a.m
  have p6 := nil_Mark
  have p7 := nil_Audit
  have p8 := nil_Compact a.n
  have p9 := nil_Sync
  have pA := nil_Copy
  have q1 := zero_Publish a.table
  have q2 := zero_Version a.name a.ver
  have q3 := zero_List
  have q4 := zero_Decide a.name a.ver a.row
  have q5 := zero_Log a.n a.m
  have q6 := zero_Mark
  have q7 := zero_Audit
  have q8 := zero_Compact a.n
  have q9 := zero_Sync
  have qA := zero_Copy
  simp only [eAct, cAct, eTable, cTable, eCols, eRules, eVals, zTab, zMark, zEnt, zMod] at *
  refine CallF.of_nil (of_law25_ModelNil (by simp) ?_) (by simp [AV.purL, AV.pur])
  unfold b_law25_ModelNil WpR
  intro Q hQr hQn hQp
  cases f <;> cases made
  · repeat' first | refine go_ ?_ | refine cf_ c0 ?_ | refine cf_ cL ?_ | refine br_ (fun hw => ?_) (fun hw => ?_) <;> try omega | fail
    all_goals first | exact ab_ | exact leafE rfl rfl
  · repeat' first | refine go_ ?_ | refine cf_ c0 ?_ | refine cf_ cL ?_ | refine br_ (fun hw => ?_) (fun hw => ?_) <;> try omega | fail
    all_goals first | exact ab_ | exact leafE rfl rfl
  · repeat' first | refine go_ ?_ | refine cf_ c0 ?_ | refine cf_ cL ?_ | refine cf_ p1 ?_ | refine cf_ p2 ?_ | refine cf_ p3 ?_ | refine cf_ p4 ?_ | refine cf_ p5 ?_ | refine cf_ p6 ?_ | refine cf_ p7 ?_ | refine cf_ p8 ?_ | refine cf_ p9 ?_ | refine cf_ pA ?_ | refine br_ (fun hw => ?_) (fun hw => ?_) <;> try omega | fail
    all_goals first | exact ab_ | exact leafE rfl rfl
  · repeat' first | refine go_ ?_ | refine cf_ c0 ?_ | refine cf_ cL ?_ | refine cm_ q1 ?_ | refine cm_ q2 ?_ | refine cm_ q3 ?_ | refine cm_ q4 ?_ | refine cm_ q5 ?_ | refine cm_ q6 ?_ | refine cm_ q7 ?_ | refine cm_ q8 ?_ | refine cm_ q9 ?_ | refine cm_ qA ?_ | refine br_ (fun hw => ?_) (fun hw => ?_) <;> try omega | fail
    all_goals first | exact ab_ | exact leafE rfl rfl
end Go.Proofs.YtigjkomalhjhdaaGreatDoor
namespace Go.AM
open Go.ChangeShapes Go.WideShapes
section
variable {H : Type} {enc : TypeId × Value → H} {P : Program} {w w' : World} {base : Nat} {spare : Nat → Bool} {held : Bool}
theorem DataW_TrodAll_carry : ∀ {ts : List TypeId} {vs : List Value} {ds : List (DataW H)} {ps : List MemPlace}, DataW.TrodAll enc P w base spare held ts vs ds ps → (∀ p ∈ ps, w.sameAt w' p) → DataW.TrodAll enc P w' base spare held ts vs ds ps
  | [], [], [], _, h, _ => h
  | _ :: _, _ :: _, _ :: _, _, ⟨p, q, ⟨n, hn⟩, h2, e⟩, hs => ⟨p, q, ⟨n, DataW.trod_carry n _ _ _ hn (fun x hx => hs x (by rw [e]; exact List.mem_append_left _ hx))⟩, DataW_TrodAll_carry h2 (fun x hx => hs x (by rw [e]; exact List.mem_append_right _ hx)), e⟩
theorem keptBut_of_heap {may : MemPlace → Prop} (h1 : w'.os = w.os) (h2 : w'.output = w.output) (h3 : ∀ b, b < w.heap.size → w'.heap[b]? = w.heap[b]?) : w.keptBut w' may := by
  refine ⟨h1, h2, fun i hi => ?_⟩
  rw [h3 i hi]
  split
  · rename_i a b ha hb
    rw [ha] at hb
    cases Option.some.inj hb
    exact ⟨rfl, rfl, rfl, fun _ _ => rfl⟩
  · rename_i a b ha hb
    rw [ha] at hb
    cases Option.some.inj hb
    exact .inr ⟨rfl, rfl⟩
  · rfl
theorem sameAt_of_heap (h3 : ∀ b, b < w.heap.size → w'.heap[b]? = w.heap[b]?) {p : MemPlace} (hp : p.block < w.heap.size) : w.sameAt w' p := by
  cases p with
  | cell b off => exact cell?_of_heap (h3 b hp) off none
  | map b => exact h3 b hp
def Ghost.all (w : World) : Ghost := Ghost.bare (· < w.heap.size)
theorem Said_of_CallF {f : FuncId} {fn : Func} {s : ChangeSpec} {t : TypeId} {args' : List AV} {W : World} {args : Array Value} {ds gs : List (DataW H)} {before : List MemPlace}
    (h : CallF P f args' (.bool true)) (hW : DataW.Whole enc P fn.params.toList s.vars false W args.toList ds gs before) (hG : GlobR (Ghost.all W) W)
    (K : Kids P (· < P.types.size)) (hz : ∀ t e, t < P.types.size → P.underlying t = some (.slice e) → 0 < P.cellsOf e) (hps : ∀ t ∈ fn.params.toList, t < P.types.size)
    (hvars : s.vars = []) (hrt : fn.resultTypes = #[t]) (ht : P.underlying t = some .bool) (hfn : s.fn H (ds ++ gs) = { results := [.lit (.bool true)], args := ds, vars := [] })
    (hl : args'.length = args.size) (hv : ∀ i, i < args'.length → VR (Ghost.all W) W (args'.getD i .undef) (args.getD i Go.undef)) :
    Calls P f args W fun e W' => ∃ v, e = .returned v ∧ s.post enc P fn false true false false W args v W' := by
  refine ((h []).2 (Ghost.all W) W args (Rel.bare (fun _ h => h) hG) hl hv).mono ?_
  rintro e W' ⟨out, g', σ', hR, hE, hO, rfl, rfl⟩
  have hfr : ∀ b, b < W.heap.size → W'.heap[b]? = W.heap[b]? := fun b hb => hE.frame b hb not_tracked_nil
  cases e with
  | panicked c => exact hO.elim
  | outgrown => exact hO.elim
  | returned v =>
    have hb : v = .bool true := by cases hO; rfl
    subst hb
    refine ⟨_, rfl, ds, gs, before, [], before, [], hW, ?_, ?_, ?_, keptBut_of_heap hE.os hE.output hfr, fun h => by cases h⟩
    · rw [hfn, hrt]
      exact trodAll_mk1 (RowKit.shut_bool ht true)
    · rw [hfn]
      have hlt := hW.lt
      obtain ⟨p, q, h1, h2, rfl, _, _⟩ := hW
      rw [hvars] at h2
      obtain ⟨rfl, rfl⟩ := trodVars_none h2
      rw [List.append_nil] at hlt ⊢
      refine DataW_TrodAll_carry (DataW.TrodAll.respare K hz hps h1 (fun x hx => by simpa using hlt x hx)) (fun x hx => sameAt_of_heap hfr (hlt x hx))
    · rw [hfn, hvars]
      rfl
theorem VR.string {g : Ghost} {w : World} (s : ByteArray) : VR g w (.str s.data.toList) (.string s) := VR.str s.data.toList
end
end Go.AM
