/- Part of a proof: see Root. -/
import Derived.Test.YtmbgnaoilncbnaaGreatW24
import Derived.WalkKit
import Derived.ProofKit
import Derived.OpenShut
import Derived.ReadAgain
import Derived.Deep.SlicePairs
set_option linter.unnecessarySimpa false
set_option linter.unusedSimpArgs false
set_option linter.unusedVariables false
namespace Go.AM.B
def IsQ (x : AExit) (t : Tr AV) (s : St) : AQ := fun x' e σ => x' = x ∧ e = t.get .undef ∧ σ = s.abs
theorem updK_ok {t : Tr AV} {d : Option Nat} {v : AV} {K : Tr AV → Bool} (h : updK t d v K = true) : ∃ t', t'.get .undef = upd (t.get .undef) d v ∧ K t' = true := by
  cases d with
  | none => exact ⟨t, rfl, h⟩
  | some d =>
    obtain ⟨t', h1, h2⟩ := Tr.setK_ok _ _ _ _ _ _ (show Tr.setK .undef 60 t d v K = true from h)
    exact ⟨t', funext fun m => h2 m, h1⟩
theorem gdP_ok {v : AV} {b : Bool} {K : Bool → Bool} (h : gdP v b K = true) : (∃ x, v = .bool x ∧ K (x == b) = true) ∨ (v = .tup [] ∧ K false = true) := by
  cases v <;> first | exact no h rfl | skip
  case bool x => replace h : K (beqB x b) = true := h; rw [beqB_eq] at h; exact .inl ⟨x, rfl, h⟩
  case tup vs => obtain ⟨h1, h2⟩ := bK_iff.1 (show bK (isNilL vs) (K false) = true from h); rw [isNilL_iff] at h1; subst h1; exact .inr ⟨rfl, h2⟩
section
variable {c : Ctx}
theorem opsK_ex (hc : CtxOk c) : ∀ (ops : List GOp) (Q : QK) (t : Tr AV) (s : St), opsK ops c Q t s = true → ∃ x t' s', Q x t' s' = true ∧ runOps c.P (IsQ x t' s') ops (t.get .undef) s.abs
  | [], Q, t, s, h => ⟨.normal, t, s, h, rfl, rfl, rfl⟩
  | ⟨o, d, gd⟩ :: r, Q, t, s, h => by
    have go : goOp o d (opsK r c) c Q t s = true → ∃ x t' s', Q x t' s' = true ∧ o.run c.P (t.get .undef) s.abs (fun v σ' => runOps c.P (IsQ x t' s') r (upd (t.get .undef) d v) σ') (fun v σ' => IsQ x t' s' (.panic v) (t.get .undef) σ') := fun h => by
      obtain ⟨out, s1, h1, h2⟩ := opK_ex hc (show AOp.K o c t s (fun v s' => updK t d v fun t' => opsK r c Q t' s') (fun v s' => Q (.panic v) t s') = true from h)
      cases out with
      | ret v =>
        obtain ⟨t1, e1, h3⟩ := updK_ok (show (updK t d v fun t' => opsK r c Q t' s1) = true from h1)
        obtain ⟨x, t', s', h4, h5⟩ := opsK_ex hc r Q t1 s1 h3
        refine ⟨x, t', s', h4, run_mono ?_ ?_ h2⟩
        · rintro v' σ' ⟨e2, rfl⟩
          cases e2
          rw [← e1]; exact h5
        · rintro v' σ' ⟨e2, _⟩; cases e2
      | panic v =>
        refine ⟨.panic v, t, s1, h1, run_mono ?_ ?_ h2⟩
        · rintro v' σ' ⟨e2, _⟩; cases e2
        · rintro v' σ' ⟨e2, rfl⟩; cases e2; exact ⟨rfl, rfl, rfl⟩
    have sk : skOp d (opsK r c) Q t s = true → ∃ x t' s', Q x t' s' = true ∧ runOps c.P (IsQ x t' s') r (upd (t.get .undef) d (.tup [])) s.abs := fun h => by
      obtain ⟨t1, e1, h3⟩ := updK_ok (show (updK t d (.tup []) fun t' => opsK r c Q t' s) = true from h)
      obtain ⟨x, t', s', h4, h5⟩ := opsK_ex hc r Q t1 s h3
      exact ⟨x, t', s', h4, by rw [← e1]; exact h5⟩
    cases gd with
    | none => exact go h
    | some p =>
      obtain ⟨k, b⟩ := p
      replace h : (Tr.getK .undef t k fun v => gdP v b fun y => iK y (goOp o d (opsK r c) c Q t s) (skOp d (opsK r c) Q t s)) = true := h
      rw [Tr.getK_eq] at h
      simp only [runOps]
      rcases gdP_ok h with ⟨y, hy, h1⟩ | ⟨hy, h1⟩
      · rw [iK_eq] at h1
        rw [hy]
        dsimp only
        by_cases hyb : y = b
        · subst hyb
          rw [if_pos (by simp)] at h1
          obtain ⟨x, t', s', h2, h3⟩ := go h1
          have hu : upd (t.get .undef) (some k) (.bool y) = t.get .undef := by
            funext m; simp only [upd]; split
            · rename_i e; rw [e, hy]
            · rfl
          exact ⟨x, t', s', h2, fun _ => by rw [hu]; exact h3, fun hn => (by cases y <;> cases hn)⟩
        · rw [if_neg (by simpa using hyb)] at h1
          obtain ⟨x, t', s', h2, h3⟩ := sk h1
          have hyb : y = !b := by cases y <;> cases b <;> simp_all
          subst hyb
          have hu : upd (t.get .undef) (some k) (.bool !b) = t.get .undef := by
            funext m; simp only [upd]; split
            · rename_i e; rw [e, hy]
            · rfl
          exact ⟨x, t', s', h2, fun hn => (by cases b <;> cases hn), fun _ => by rw [hu]; exact h3⟩
      · obtain ⟨x, t', s', h2, h3⟩ := sk h1
        rw [hy]
        exact ⟨x, t', s', h2, h3⟩
theorem objK_eq (x : AV) : objK x = x.obj := by cases x <;> rfl
theorem apart1_ok {x y : AV} (h : apart1 x y = true) : apartA x y := by
  intro l h1 h2
  unfold apart1 at h
  rw [objK_eq, objK_eq, h1, h2] at h
  replace h : notK (Nat.beq l l) = true := h
  rw [Nat.beq_refl] at h; cases h
theorem apartK_ok : ∀ (prs : List (AX × AX)) (t : Tr AV), apartK prs t = true → apartAll prs (t.get .undef)
  | [], _, _ => trivial
  | (x, y) :: r, t, h => by
    replace h : (evK x t fun a => evK y t fun b => bK (apart1 a b) (apartK r t)) = true := h
    rw [evK_eq, evK_eq, bK_iff] at h
    exact ⟨apart1_ok h.1, apartK_ok r t h.2⟩
theorem loop_one {body : AQ → Env → Store → Prop} (hm : ∀ {Q Q' : AQ}, (∀ ex e σ, Q ex e σ → Q' ex e σ) → ∀ e σ, body Q e σ → body Q' e σ) {Q : AQ} {e : Env} {σ : Store} {t1 : Tr AV} {s1 : St} (h1 : body (IsQ .normal t1 s1) e σ) (h2 : LoopA body Q (t1.get .undef) s1.abs) : LoopA body Q e σ := by
  obtain ⟨I, ⟨n0, hI⟩, hr⟩ := h2
  refine ⟨fun m e' σ' => I m e' σ' ∨ (m = n0 + 1 ∧ e' = e ∧ σ' = σ), ⟨n0 + 1, .inr ⟨rfl, rfl, rfl⟩⟩, ?_⟩
  rintro n e' σ' (h | ⟨rfl, rfl, rfl⟩)
  · refine hm ?_ _ _ (hr n e' σ' h)
    intro ex e2 σ2 hq
    cases ex with
    | normal => obtain ⟨m, h3, h4⟩ := hq; exact ⟨m, h3, .inl h4⟩
    | _ => exact hq
  · refine hm ?_ _ _ h1
    rintro ex e2 σ2 ⟨rfl, rfl, rfl⟩
    exact ⟨n0, Nat.lt_succ_self _, .inl hI⟩
def ScopeR (l : Nat) (rest : AQ → Env → Store → Prop) (Q : AQ) (e : Env) (σ : Store) : Prop := ∃ (J : Nat → Env → Store → Prop), (∃ n, J n e σ) ∧ ∀ n e σ, J n e σ → rest (jumpQ l (fun e' σ' => ∃ m, m < n ∧ J m e' σ') Q) e σ
theorem scope_one {l : Nat} {rest : AQ → Env → Store → Prop} (hm : ∀ {Q Q' : AQ}, (∀ ex e σ, Q ex e σ → Q' ex e σ) → ∀ e σ, rest Q e σ → rest Q' e σ) {Q : AQ} {e : Env} {σ : Store} {t1 : Tr AV} {s1 : St} (h1 : rest (IsQ (.goto l) t1 s1) e σ) (h2 : ScopeR l rest Q (t1.get .undef) s1.abs) : ScopeR l rest Q e σ := by
  obtain ⟨I, ⟨n0, hI⟩, hr⟩ := h2
  refine ⟨fun m e' σ' => I m e' σ' ∨ (m = n0 + 1 ∧ e' = e ∧ σ' = σ), ⟨n0 + 1, .inr ⟨rfl, rfl, rfl⟩⟩, ?_⟩
  rintro n e' σ' (h | ⟨rfl, rfl, rfl⟩)
  · refine hm ?_ _ _ (hr n e' σ' h)
    intro ex e2 σ2 hq
    cases ex with
    | goto l' => obtain ⟨h0, m, h3, h4⟩ := hq; exact ⟨h0, m, h3, .inl h4⟩
    | _ => exact hq
  · refine hm ?_ _ _ h1
    rintro ex e2 σ2 ⟨rfl, rfl, rfl⟩
    exact ⟨rfl, n0, Nat.lt_succ_self _, .inl hI⟩
theorem codeK_ex (hc : CtxOk c) : ∀ (co : ACode) (Q : QK) (t : Tr AV) (s : St), codeK co c Q t s = true → ∃ x t' s', Q x t' s' = true ∧ wpA c.P co (IsQ x t' s') (t.get .undef) s.abs := by
  intro co
  induction co with
  | skip => intro Q t s h; exact ⟨.normal, t, s, h, rfl, rfl, rfl⟩
  | region ops => intro Q t s h; exact opsK_ex hc ops Q t s h
  | draw ops prs =>
    intro Q t s h
    obtain ⟨x, t', s', h1, h2⟩ := opsK_ex hc ops (condK prs Q) t s h
    have key : ∀ {Q0 : Prop}, (∀ ex e σ, IsQ x t' s' ex e σ → condQ prs (IsQ x t' s') ex e σ) → Q x t' s' = true → ∃ x t' s', Q x t' s' = true ∧ wpA c.P (.draw ops prs) (IsQ x t' s') (t.get .undef) s.abs := fun hm h => ⟨x, t', s', h, (wpA_mono (c := .region ops) hm _ _ h2 : wpA c.P (.region ops) _ _ _)⟩
    cases x with
    | normal =>
      replace h1 : bK (apartK prs t') (Q .normal t' s') = true := h1
      rw [bK_iff] at h1
      exact key (Q0 := True) (by rintro ex e σ ⟨rfl, rfl, rfl⟩; exact ⟨apartK_ok _ _ h1.1, rfl, rfl, rfl⟩) h1.2
    | exit i => exact key (Q0 := True) (by rintro ex e σ ⟨rfl, rfl, rfl⟩; exact ⟨rfl, rfl, rfl⟩) h1
    | goto i => exact key (Q0 := True) (by rintro ex e σ ⟨rfl, rfl, rfl⟩; exact ⟨rfl, rfl, rfl⟩) h1
    | ret => exact key (Q0 := True) (by rintro ex e σ ⟨rfl, rfl, rfl⟩; exact ⟨rfl, rfl, rfl⟩) h1
    | panic v => exact key (Q0 := True) (by rintro ex e σ ⟨rfl, rfl, rfl⟩; exact ⟨rfl, rfl, rfl⟩) h1
  | seq a b iha ihb =>
    intro Q t s h
    obtain ⟨x, t1, s1, h1, h2⟩ := iha (thenK (codeK b c Q) Q) t s h
    have out : x ≠ .normal → Q x t1 s1 = true → ∃ x t' s', Q x t' s' = true ∧ wpA c.P (.seq a b) (IsQ x t' s') (t.get .undef) s.abs := fun hx h => by
      refine ⟨x, t1, s1, h, ?_⟩
      simp only [wpA]
      exact wpA_mono (by rintro ex e σ ⟨rfl, rfl, rfl⟩; cases ex <;> first | exact absurd rfl hx | exact ⟨rfl, rfl, rfl⟩) _ _ h2
    cases x with
    | normal =>
      obtain ⟨x, t', s', h3, h4⟩ := ihb Q t1 s1 h1
      refine ⟨x, t', s', h3, ?_⟩
      simp only [wpA]
      exact wpA_mono (by rintro ex e σ ⟨rfl, rfl, rfl⟩; exact h4) _ _ h2
    | exit i => exact out (by simp) h1
    | goto i => exact out (by simp) h1
    | ret => exact out (by simp) h1
    | panic v => exact out (by simp) h1
  | cond x a b iha ihb =>
    intro Q t s h
    replace h : (evK x t fun v => onBool v fun y => iK y (codeK a c Q t s) (codeK b c Q t s)) = true := h
    rw [evK_eq] at h
    obtain ⟨y, hx, h1⟩ := onBool_ok h
    rw [iK_eq] at h1
    simp only [wpA, hx]
    cases y with
    | true => obtain ⟨x, t', s', h2, h3⟩ := iha Q t s h1; exact ⟨x, t', s', h2, fun _ => h3, fun h => (by cases h)⟩
    | false => obtain ⟨x, t', s', h2, h3⟩ := ihb Q t s h1; exact ⟨x, t', s', h2, fun h => (by cases h), fun _ => h3⟩
  | block id a ih =>
    intro Q t s h
    obtain ⟨x, t1, s1, h1, h2⟩ := ih (blockK id Q) t s h
    have key : ∀ y, Q y t1 s1 = true → (∀ e σ, IsQ y t1 s1 y e σ → blockQ id (IsQ y t1 s1) x e σ) → ∃ x t' s', Q x t' s' = true ∧ wpA c.P (.block id a) (IsQ x t' s') (t.get .undef) s.abs := fun y h hm => by
      refine ⟨y, t1, s1, h, ?_⟩
      simp only [wpA]
      exact wpA_mono (by rintro ex e σ ⟨rfl, h5, h6⟩; exact hm e σ ⟨rfl, h5, h6⟩) _ _ h2
    cases x with
    | exit i =>
      replace h1 : iK (Nat.beq i id) (Q .normal t1 s1) (Q (.exit i) t1 s1) = true := h1
      rw [iK_eq, nbeq'] at h1
      by_cases e : i = id
      · rw [if_pos (decide_eq_true e)] at h1; exact key .normal h1 (fun e' σ h => by simp only [blockQ, if_pos e]; exact h)
      · rw [if_neg (fun h => e (of_decide_eq_true h))] at h1; exact key (.exit i) h1 (fun e' σ h => by simp only [blockQ, if_neg e]; exact h)
    | normal => exact key .normal h1 (fun _ _ h => h)
    | goto i => exact key (.goto i) h1 (fun _ _ h => h)
    | ret => exact key .ret h1 (fun _ _ h => h)
    | panic v => exact key (.panic v) h1 (fun _ _ h => h)
  | loop a ih =>
    intro Q t s h
    have key : ∀ (n : Nat) (t : Tr AV) (s : St), loopB n (codeK a c) Q t s = true → ∃ x t' s', Q x t' s' = true ∧ LoopA (wpA c.P a) (IsQ x t' s') (t.get .undef) s.abs := by
      intro n
      induction n with
      | zero => intro t s h; exact no h rfl
      | succ n ihn =>
        intro t s h
        obtain ⟨x, t1, s1, h1, h2⟩ := ih (thenK (loopB n (codeK a c) Q) Q) t s h
        have out : x ≠ .normal → Q x t1 s1 = true → ∃ x t' s', Q x t' s' = true ∧ LoopA (wpA c.P a) (IsQ x t' s') (t.get .undef) s.abs := fun hx h =>
          ⟨x, t1, s1, h, fun m e σ => m = 0 ∧ e = t.get .undef ∧ σ = s.abs, ⟨0, rfl, rfl, rfl⟩, by
            rintro m e σ ⟨rfl, rfl, rfl⟩
            exact wpA_mono (by rintro ex e σ ⟨rfl, rfl, rfl⟩; cases ex <;> first | exact absurd rfl hx | exact ⟨rfl, rfl, rfl⟩) _ _ h2⟩
        cases x with
        | normal =>
          obtain ⟨x, t', s', h3, h4⟩ := ihn t1 s1 h1
          exact ⟨x, t', s', h3, loop_one (fun hm e σ h => wpA_mono hm e σ h) h2 h4⟩
        | exit i => exact out (by simp) h1
        | goto i => exact out (by simp) h1
        | ret => exact out (by simp) h1
        | panic v => exact out (by simp) h1
    exact key 1000000 t s h
  | exit id => intro Q t s h; exact ⟨.exit id, t, s, h, rfl, rfl, rfl⟩
  | ret => intro Q t s h; exact ⟨.ret, t, s, h, rfl, rfl, rfl⟩
  | scope l a r iha ihr =>
    intro Q t s h
    have key : ∀ (n : Nat) (t : Tr AV) (s : St), scopeB l n (codeK r c) Q t s = true → ∃ x t' s', Q x t' s' = true ∧ ScopeR l (wpA c.P r) (IsQ x t' s') (t.get .undef) s.abs := by
      intro n
      induction n with
      | zero => intro t s h; exact no h rfl
      | succ n ihn =>
        intro t s h
        obtain ⟨x, t1, s1, h1, h2⟩ := ihr (jumpK l (scopeB l n (codeK r c) Q) Q) t s h
        have out : (∀ i, x ≠ .goto i) → Q x t1 s1 = true → ∃ x t' s', Q x t' s' = true ∧ ScopeR l (wpA c.P r) (IsQ x t' s') (t.get .undef) s.abs := fun hx h =>
          ⟨x, t1, s1, h, fun m e σ => m = 0 ∧ e = t.get .undef ∧ σ = s.abs, ⟨0, rfl, rfl, rfl⟩, by
            rintro m e σ ⟨rfl, rfl, rfl⟩
            exact wpA_mono (by rintro ex e σ ⟨rfl, rfl, rfl⟩; cases ex <;> first | exact absurd rfl (hx _) | exact ⟨rfl, rfl, rfl⟩) _ _ h2⟩
        cases x with
        | goto i =>
          replace h1 : bK (Nat.beq i l) (scopeB l n (codeK r c) Q t1 s1) = true := h1
          rw [bK_iff, nbeq] at h1
          obtain ⟨rfl, h1⟩ := h1
          obtain ⟨x, t', s', h3, h4⟩ := ihn t1 s1 h1
          exact ⟨x, t', s', h3, scope_one (fun hm e σ h => wpA_mono hm e σ h) h2 h4⟩
        | normal => exact out (by simp) h1
        | exit i => exact out (by simp) h1
        | ret => exact out (by simp) h1
        | panic v => exact out (by simp) h1
    obtain ⟨x, t1, s1, h1, h2⟩ := iha (jumpK l (scopeB l 1000000 (codeK r c) Q) Q) t s h
    have out : (∀ i, x ≠ .goto i) → Q x t1 s1 = true → ∃ x t' s', Q x t' s' = true ∧ wpA c.P (.scope l a r) (IsQ x t' s') (t.get .undef) s.abs := fun hx h =>
      ⟨x, t1, s1, h, fun _ _ _ => False, wpA_mono (by rintro ex e σ ⟨rfl, rfl, rfl⟩; cases ex <;> first | exact absurd rfl (hx _) | exact ⟨rfl, rfl, rfl⟩) _ _ h2, fun _ _ _ h => h.elim⟩
    cases x with
    | goto i =>
      replace h1 : bK (Nat.beq i l) (scopeB l 1000000 (codeK r c) Q t1 s1) = true := h1
      rw [bK_iff, nbeq] at h1
      obtain ⟨rfl, h1⟩ := h1
      obtain ⟨x, t', s', h3, J, ⟨n0, hJ⟩, hr⟩ := key _ t1 s1 h1
      exact ⟨x, t', s', h3, J, wpA_mono (by rintro ex e σ ⟨rfl, rfl, rfl⟩; exact ⟨rfl, n0, hJ⟩) _ _ h2, hr⟩
    | normal => exact out (by simp) h1
    | exit i => exact out (by simp) h1
    | ret => exact out (by simp) h1
    | panic v => exact out (by simp) h1
  | label l => intro Q t s h; exact ⟨.normal, t, s, h, rfl, rfl, rfl⟩
  | goto l => intro Q t s h; exact ⟨.goto l, t, s, h, rfl, rfl, rfl⟩
  | rng f nt ps a b => intro Q t s h; exact no h rfl
  | stop => intro Q t s h; exact no h rfl
theorem resK_ex : ∀ (rs : List ARes) (t : Tr AV) (s : St) (K : List AV → Bool), resK rs t s K = true → ∃ vs, K vs = true ∧ ∀ K' : List AV → Prop, K' vs → resA (t.get .undef) s.abs rs K'
  | [], t, s, K, h => ⟨[], h, fun _ h => h⟩
  | .tmp n :: r, t, s, K, h => by
    replace h : (Tr.getK .undef t n fun v => resK r t s fun vs => K (v :: vs)) = true := h
    rw [Tr.getK_eq] at h
    obtain ⟨vs, h1, h2⟩ := resK_ex r t s _ h
    exact ⟨_, h1, fun K' h => h2 _ h⟩
  | .cell n ag m :: r, t, s, K, h => by
    replace h : (Tr.getK .undef t n fun p => loadK p s ag m fun v => resK r t s fun vs => K (v :: vs)) = true := h
    rw [Tr.getK_eq] at h
    obtain ⟨v, h0, h1⟩ := loadA_ex (loadK_ok (K' := fun v => (resK r t s fun vs => K (v :: vs)) = true) h fun _ h => h)
    obtain ⟨vs, h2, h3⟩ := resK_ex r t s _ h1
    refine ⟨v :: vs, h2, fun K' h => ?_⟩
    have h0 := h0 []
    rw [List.append_nil] at h0
    exact loadA_mono (fun v' e => by subst e; exact h3 _ h) h0
theorem oneK_eq (vs : List AV) (K : AV → Bool) : oneK vs K = K (oneOf vs) := by
  match vs with
  | [] => rfl
  | [_] => rfl
  | _ :: _ :: _ => rfl
theorem env0 {args : List AV} {nt : Nat} {K : Nat → Tr AV → Bool} (h : ofK .undef args 0 .nil K = true) : ∃ n t, K n t = true ∧ t.get .undef = envOf args := by
  obtain ⟨t, h1, h2⟩ := ofK_ok _ _ _ _ _ h
  refine ⟨_, t, h1, funext fun m => ?_⟩
  rw [h2]
  simp only [envOf, Nat.zero_le, true_and, Nat.zero_add, Nat.sub_zero]
  by_cases e : m < args.length
  · rw [if_pos e]
  · rw [if_neg e, List.getD_eq_getElem?_getD, List.getElem?_eq_none (by omega)]; rfl
theorem retK_ok {rs : List ARes} {K : Out → St → Bool} {x : AExit} {t : Tr AV} {s : St} (h : retK rs K x t s = true) : ∃ o, K o s = true ∧ retQ rs (fun o' σ' => o' = o ∧ σ' = s.abs) x (t.get .undef) s.abs := by
  have r : (resK rs t s fun vs => oneK vs fun v => K (.ret v) s) = true → ∃ o, K o s = true ∧ resA (t.get .undef) s.abs rs fun vs => (Out.ret (oneOf vs)) = o ∧ s.abs = s.abs := fun h => by
    obtain ⟨vs, h1, h2⟩ := resK_ex _ _ _ _ h
    rw [oneK_eq] at h1
    exact ⟨_, h1, h2 _ ⟨rfl, rfl⟩⟩
  cases x with
  | normal => exact r h
  | ret => exact r h
  | panic v => exact ⟨.panic v, h, rfl, rfl⟩
  | exit i => exact no h rfl
  | goto i => exact no h rfl
theorem mvsK_ok {K : Tr AV → Bool} : ∀ (l : List (AX × Option Nat)) (t : Tr AV), mvsK l t K = true → ∃ t', K t' = true ∧ ∀ K' : Env → Prop, K' (t'.get .undef) → mvsA l K' (t.get .undef)
  | [], t, h => ⟨t, h, fun _ h => h⟩
  | (x, d) :: r, t, h => by
    replace h : (evK x t fun v => updK t d v fun t' => mvsK r t' K) = true := h
    rw [evK_eq] at h
    obtain ⟨t1, e1, h1⟩ := updK_ok h
    obtain ⟨t', h2, h3⟩ := mvsK_ok r t1 h1
    exact ⟨t', h2, fun K' h => by have := h3 K' h; rw [e1] at this; exact this⟩
theorem defK_ex (hc : CtxOk c) {n : FuncId} {args : List AV} {pv : Option AV} {s : St} {K : St → Bool} (h : defK c n args (pv.getD .nili) s K = true) : ∃ s', K s' = true ∧ DefA c.P n args pv s.abs fun σ' => σ' = s'.abs := by
  unfold defK at h
  generalize hr : tblR c.P c.hs n = ro at h
  cases ro with
  | none => exact no h rfl
  | some rf =>
    cases rf with | mk nt k mvs rest =>
    replace h : bK (lenK args 0 fun m => Nat.ble m nt) (ofK .undef args 0 .nil fun _ t => Tr.setK .undef 60 t k (pv.getD .nili) fun t => mvsK mvs t fun t => codeK rest c (endK K) t s) = true := h
    rw [bK_iff, len0, nble, decide_eq_true_eq] at h
    obtain ⟨_, t, h1, e1⟩ := env0 (nt := nt) h.2
    obtain ⟨t1, h2, h3⟩ := Tr.setK_ok _ _ _ _ _ _ h1
    obtain ⟨t2, h4, h5⟩ := mvsK_ok _ _ h2
    obtain ⟨x, t3, s', h6, h7⟩ := codeK_ex hc _ _ _ _ h4
    have e2 : t1.get .undef = upd (envOf args) (some k) (pv.getD .nili) := by
      funext m; rw [h3, e1]; rfl
    have hx : (x = .normal ∨ x = .ret) ∧ K s' = true := by
      cases x with
      | normal => exact ⟨.inl rfl, h6⟩
      | ret => exact ⟨.inr rfl, h6⟩
      | _ => exact no h6 rfl
    refine ⟨s', hx.2, ?_⟩
    unfold tblR at hr
    split at hr
    · rename_i fn hfn
      split at hr
      · cases hr
      · rename_i hnm
        refine DefA.of_wp hfn hnm hr h.1 ?_
        show mvsA mvs (fun e => wpA c.P rest (endR fun σ' => σ' = s'.abs) e s.abs) (upd (envOf args) (some k) (pv.getD .nili))
        rw [← e2]
        refine h5 _ (wpA_mono ?_ _ _ h7)
        rintro ex e σ ⟨rfl, rfl, rfl⟩
        rcases hx.1 with rfl | rfl <;> exact rfl
    · cases hr
theorem dfrK_ok (hc : CtxOk c) {rs : List ARes} {K : Out → St → Bool} {n : FuncId} {args : List AV} {x : AExit} {t : Tr AV} {s : St} (h : dfrK c rs K n args x t s = true) : ∃ o s', K o s' = true ∧ dfrQ c.P rs (fun o' σ' => o' = o ∧ σ' = s'.abs) n args x (t.get .undef) s.abs := by
  have r : ∀ pv : Option AV, (defK c n args (pv.getD .nili) s fun s' => resK rs t s' fun vs => oneK vs fun v => K (.ret v) s') = true → ∃ o s', K o s' = true ∧ DefA c.P n args pv s.abs fun σ' => resA (t.get .undef) σ' rs fun vs => (Out.ret (oneOf vs)) = o ∧ σ' = s'.abs := fun pv h => by
    obtain ⟨s', h1, h2⟩ := defK_ex hc h
    obtain ⟨vs, h3, h4⟩ := resK_ex _ _ _ _ h1
    rw [oneK_eq] at h3
    refine ⟨_, s', h3, h2.1, fun g w us u a1 a2 a3 a4 => (h2.2 g w us u a1 a2 a3 a4).mono ?_⟩
    rintro e u' w' ⟨g', σ', v, b1, b2, b3, b4, rfl⟩
    exact ⟨g', _, v, b1, b2, b3, b4, h4 _ ⟨rfl, rfl⟩⟩
  cases x with
  | normal => exact r none h
  | ret => exact r none h
  | panic v => exact r (some v) h
  | exit i => exact no h rfl
  | goto i => exact no h rfl
theorem dcodeK_ex (hc : CtxOk c) {rs : List ARes} {K : Out → St → Bool} : ∀ (d : DCode) (t : Tr AV) (s : St), dcodeK d c (retK rs K) (dfrK c rs K) t s = true → ∃ o s', K o s' = true ∧ d.wp c.P (retQ rs fun o' σ' => o' = o ∧ σ' = s'.abs) (dfrQ c.P rs fun o' σ' => o' = o ∧ σ' = s'.abs) (t.get .undef) s.abs := by
  intro d
  induction d with
  | seq a d ih =>
    intro t s h
    obtain ⟨x, t1, s1, h1, h2⟩ := codeK_ex hc a _ t s (show codeK a c (thenK (dcodeK d c (retK rs K) (dfrK c rs K)) (retK rs K)) t s = true from h)
    have out : x ≠ .normal → retK rs K x t1 s1 = true → ∃ o s', K o s' = true ∧ (DCode.seq a d).wp c.P (retQ rs fun o' σ' => o' = o ∧ σ' = s'.abs) (dfrQ c.P rs fun o' σ' => o' = o ∧ σ' = s'.abs) (t.get .undef) s.abs := fun hx h => by
      obtain ⟨o, h3, h4⟩ := retK_ok h
      refine ⟨o, s1, h3, wpA_mono ?_ _ _ h2⟩
      rintro ex e σ ⟨rfl, rfl, rfl⟩
      cases ex <;> first | exact absurd rfl hx | exact h4
    cases x with
    | normal =>
      obtain ⟨o, s', h3, h4⟩ := ih t1 s1 h1
      exact ⟨o, s', h3, wpA_mono (by rintro ex e σ ⟨rfl, rfl, rfl⟩; exact h4) _ _ h2⟩
    | exit i => exact out (by simp) h1
    | goto i => exact out (by simp) h1
    | ret => exact out (by simp) h1
    | panic v => exact out (by simp) h1
  | dfr ops y rest =>
    intro t s h
    obtain ⟨x, t1, s1, h1, h2⟩ := opsK_ex hc ops _ t s (show opsK ops c (thenK (fun t s => evK y t fun v => onFn v fun f a b => onFunc f fun n => appendK a b fun az => codeK rest c (dfrK c rs K n az) t s) (retK rs K)) t s = true from h)
    have mono : ∀ {Q' : AQ}, (∀ ex e σ, IsQ x t1 s1 ex e σ → Q' ex e σ) → runOps c.P Q' ops (t.get .undef) s.abs := fun hm => (wpA_mono (c := .region ops) hm _ _ h2 : wpA c.P (.region ops) _ _ _)
    have out : x ≠ .normal → retK rs K x t1 s1 = true → ∃ o s', K o s' = true ∧ (DCode.dfr ops y rest).wp c.P (retQ rs fun o' σ' => o' = o ∧ σ' = s'.abs) (dfrQ c.P rs fun o' σ' => o' = o ∧ σ' = s'.abs) (t.get .undef) s.abs := fun hx h => by
      obtain ⟨o, h3, h4⟩ := retK_ok h
      refine ⟨o, s1, h3, mono ?_⟩
      rintro ex e σ ⟨rfl, rfl, rfl⟩
      cases ex <;> first | exact absurd rfl hx | exact h4
    cases x with
    | normal =>
      replace h1 : (evK y t1 fun v => onFn v fun f a b => onFunc f fun n => appendK a b fun az => codeK rest c (dfrK c rs K n az) t1 s1) = true := h1
      rw [evK_eq] at h1
      obtain ⟨f, a, b, hv, h3⟩ := onFn_ok h1
      obtain ⟨n, rfl, h4⟩ := onFunc_ok h3
      rw [appendK_eq] at h4
      obtain ⟨x2, t2, s2, h5, h6⟩ := codeK_ex hc rest _ t1 s1 h4
      obtain ⟨o, s', h7, h8⟩ := dfrK_ok hc h5
      refine ⟨o, s', h7, mono ?_⟩
      rintro ex e σ ⟨rfl, rfl, rfl⟩
      show (match y.ev (t1.get .undef) with | .fn (.func n) first cap => wpA c.P rest (dfrQ c.P rs _ n (first ++ cap)) (t1.get .undef) s1.abs | _ => False)
      rw [hv]
      exact wpA_mono (by rintro ex e σ ⟨rfl, rfl, rfl⟩; exact h8) _ _ h6
    | exit i => exact out (by simp) h1
    | goto i => exact out (by simp) h1
    | ret => exact out (by simp) h1
    | panic v => exact out (by simp) h1
end
theorem callK_ok {P : Program} {ne : FuncId → Bool} (hne : NeOk P ne) (hs : FuncId → Hints) (df : FuncId → Bool) : ∀ (f : Nat) (n : FuncId) (args : List AV) (s : St) (K : Out → St → Bool), callK P ne hs df f n args s K = true → ∃ o s', K o s' = true ∧ CallA P n args s.abs fun o' σ' => o' = o ∧ σ' = s'.abs := by
  intro f
  induction f with
  | zero => intro n args s K h; exact no h rfl
  | succ f ih =>
    intro n args s K h
    have hc : CtxOk ⟨P, ne, hs, callK P ne hs df f⟩ := ⟨hne, ih⟩
    replace h : iK (df n)
      (@Option.rec DFunc (fun _ => Bool) false (fun af => @DFunc.rec (fun _ => Bool) (fun nt rs body => bK (lenK args 0 fun k => Nat.ble k nt) (ofK .undef args 0 .nil fun _ t => dcodeK body ⟨P, ne, hs, callK P ne hs df f⟩ (retK rs K) (dfrK ⟨P, ne, hs, callK P ne hs df f⟩ rs K) t s)) af) (tblD P hs n))
      (@Option.rec AFunc (fun _ => Bool) false (fun af => @AFunc.rec (fun _ => Bool) (fun nt rs body => bK (lenK args 0 fun k => Nat.ble k nt) (ofK .undef args 0 .nil fun _ t => codeK body ⟨P, ne, hs, callK P ne hs df f⟩ (retK rs K) t s)) af) (tblE P hs n)) = true := h
    rw [iK_eq] at h
    split at h
    · generalize hr : tblD P hs n = ro at h
      cases ro with
      | none => exact no h rfl
      | some af =>
        cases af with | mk nt rs body =>
        replace h : bK (lenK args 0 fun k => Nat.ble k nt) (ofK .undef args 0 .nil fun _ t => dcodeK body ⟨P, ne, hs, callK P ne hs df f⟩ (retK rs K) (dfrK ⟨P, ne, hs, callK P ne hs df f⟩ rs K) t s) = true := h
        rw [bK_iff, len0, nble, decide_eq_true_eq] at h
        obtain ⟨_, t, h1, e1⟩ := env0 (nt := nt) h.2
        obtain ⟨o, s', h2, h3⟩ := dcodeK_ex hc body t s h1
        refine ⟨o, s', h2, ?_⟩
        unfold tblD at hr
        split at hr
        · rename_i fn hfn
          split at hr
          · cases hr
          · rename_i hnm
            refine CallA.of_dfr hfn hnm hr h.1 ?_
            rw [← e1]; exact h3
        · cases hr
    · generalize hr : tblE P hs n = ro at h
      cases ro with
      | none => exact no h rfl
      | some af =>
        cases af with | mk nt rs body =>
        replace h : bK (lenK args 0 fun k => Nat.ble k nt) (ofK .undef args 0 .nil fun _ t => codeK body ⟨P, ne, hs, callK P ne hs df f⟩ (retK rs K) t s) = true := h
        rw [bK_iff, len0, nble, decide_eq_true_eq] at h
        obtain ⟨_, t, h1, e1⟩ := env0 (nt := nt) h.2
        obtain ⟨x, t1, s1, h2, h3⟩ := codeK_ex hc body _ t s h1
        obtain ⟨o, h4, h5⟩ := retK_ok h2
        refine ⟨o, s1, h4, ?_⟩
        unfold tblE at hr
        split at hr
        · rename_i fn hfn
          split at hr
          · cases hr
          · rename_i hnm
            refine CallA.of_wp hfn hnm hr h.1 ?_
            rw [← e1]
            exact wpA_mono (by rintro ex e σ ⟨rfl, rfl, rfl⟩; exact h5) _ _ h3
        · cases hr
theorem run_call {P : Program} {ne : FuncId → Bool} (hne : NeOk P ne) (hs : FuncId → Hints) (df : FuncId → Bool) {f : Nat} {n : FuncId} {args : List AV} {K : Out → St → Bool} (h : callK P ne hs df f n args ⟨0, .nil⟩ K = true) : ∃ o s', K o s' = true ∧ CallA P n args [] fun o' σ' => o' = o ∧ σ' = s'.abs := callK_ok hne hs df f n args ⟨0, .nil⟩ K h
end Go.AM.B
namespace Go.Proofs.YtmbgnaoilncbnaaGreat
open Go.AM
def hintL : List (Nat × Hints) := [(30, ⟨[], [], [(5, ⟨false, 1⟩)], [], [], []⟩), (31, ⟨[], [], [(5, ⟨false, 1⟩)], [], [], []⟩), (43, ⟨[], [], [(9, ⟨false, 1⟩)], [], [], []⟩), (52, ⟨[], [], [(4, ⟨false, 1⟩)], [], [], []⟩), (56, ⟨[], [], [(10, ⟨true, 3⟩)], [], [], []⟩), (58, ⟨[], [], [(10, ⟨true, 3⟩)], [], [], []⟩), (69, ⟨[], [], [(8, ⟨false, 1⟩)], [], [], []⟩), (70, ⟨[], [], [(9, ⟨false, 1⟩), (12, ⟨true, 3⟩)], [], [], []⟩), (74, ⟨[], [], [(8, ⟨false, 1⟩)], [], [], []⟩), (75, ⟨[], [], [(8, ⟨true, 3⟩)], [], [], []⟩), (77, ⟨[], [], [(6, ⟨false, 1⟩)], [], [], []⟩), (112, ⟨[], [], [], [], [71, 87], []⟩), (150, ⟨[], [], [(6, ⟨true, 3⟩)], [], [], []⟩), (156, ⟨[], [], [(5, ⟨true, 4⟩)], [], [], []⟩), (165, ⟨[], [], [(7, ⟨false, 1⟩)], [], [], []⟩), (175, ⟨[], [], [(5, ⟨true, 4⟩)], [], [], []⟩), (177, ⟨[], [], [], [], [20], []⟩), (183, ⟨[], [], [(7, ⟨false, 1⟩)], [], [], []⟩), (185, ⟨[], [], [(10, ⟨true, 3⟩)], [], [], []⟩), (208, ⟨[], [], [], [], [106], []⟩), (227, ⟨[], [], [], [], [58], []⟩), (259, ⟨[], [], [(4, ⟨false, 1⟩)], [], [], []⟩), (268, ⟨[], [], [], [], [16], []⟩)]
def hintF (n : FuncId) : Hints := match hintL.lookup n with | some h => h | none => ⟨[], [], [], [], [], []⟩
def isDfr (n : FuncId) : Bool := Nat.beq n 106
def retT (o : Out) (_ : B.St) : Bool := match o with | .ret (.bool true) => true | _ => false
theorem retT_eq {o : Out} {s : B.St} (h : retT o s = true) : o = .ret (.bool true) := by
  unfold retT at h; split at h <;> first | rfl | (cases h)
theorem CallF.of_run {n : FuncId} {f : Nat} (h : B.callK Tryz.prog (fun _ => false) hintF isDfr f n [] ⟨0, .nil⟩ retT = true) : CallF Tryz.prog n [] (.bool true) := by
  obtain ⟨o, s', h1, h2⟩ := B.run_call (fun _ h => by cases h) hintF isDfr h
  refine CallF.of_nil (h2.mono ?_) rfl
  rintro o' σ' ⟨rfl, rfl⟩
  exact ⟨_, retT_eq h1, View.refl _ rfl⟩
theorem law21_lives_run : B.callK Tryz.prog (fun _ => false) hintF isDfr 60 n_law21_lives [] ⟨0, .nil⟩ retT = true := by kernel_rfl
theorem law21_lives : CallF Tryz.prog n_law21_lives [] (.bool true) := CallF.of_run law21_lives_run
end Go.Proofs.YtmbgnaoilncbnaaGreat
namespace Go.Proofs.YtmbgnaoilncbnaaGreat
open Go.AM
set_option maxRecDepth 4000
def rngV (v : Val) : Prop := rng v.n
def fewV (l : List Val) : Bool := decide (l.length ≤ 12) && l.all valB
def smallE (e : Ent) : Bool := decide (e.table.length ≤ 300) && fewV e.input && decide (e.rules.length ≤ 30) && decide (e.rows.length ≤ 30) && e.rows.all fewV
def rngEnt (e : Ent) : Prop := rng e.ver ∧ (∀ v ∈ e.input, rngV v) ∧ rng e.err ∧ (∀ n ∈ e.rules, rng n) ∧ ∀ l ∈ e.rows, ∀ v ∈ l, rngV v
theorem okVals_few {l : List Val} (h : fewV l = true) (hr : ∀ v ∈ l, rngV v) : okVals l := by
  simp only [fewV, Bool.and_eq_true, decide_eq_true_eq, List.all_eq_true] at h
  refine ⟨by omega, fun v hv => ?_⟩
  have h2 := h.2 v hv
  have hS : valB v = decide (v.s.length ≤ 300) := rfl
  rw [hS, decide_eq_true_eq] at h2
  have h3 := hr v hv
  exact ⟨h3, by omega⟩
theorem okEnt_small {e : Ent} (h : smallE e = true) (hr : rngEnt e) : okEnt e := by
  simp only [smallE, Bool.and_eq_true, decide_eq_true_eq, List.all_eq_true] at h
  obtain ⟨⟨⟨⟨h1, h2⟩, h3⟩, h4⟩, h5⟩ := h
  obtain ⟨r1, r2, r3, r4, r5⟩ := hr
  exact ⟨by omega, r1, okVals_few h2 r2, r3, ⟨by omega, r4⟩, by omega, fun l hl => okVals_few (h5 l hl) (r5 l hl)⟩
theorem law21_Small (e : Ent) : CallF Tryz.prog n_law21_E_Small [eEnt e] (.bool (smallE e)) := by
  have c1 := law16_Few e.input
  have cR := fun k => law16_Few (e.rows.getD k default)
  obtain ⟨E, hE⟩ : ∃ E, smallE e = E := ⟨_, rfl⟩
  rw [hE]
  unfold smallE at hE
  have e1 : (decide (e.input.length ≤ 12) && e.input.all valB) = fewV e.input := rfl
  rw [e1] at c1
  obtain ⟨A, B, C, D, F, G⟩ := e
  dsimp only at c1 cR hE
  generalize fewV C = f at *
  simp only [eEnt, cEnt, eInts, eVals, eRows] at c1 ⊢
  refine CallF.of_nil (of_law21_E_Small (by simp) ?_) (by simp)
  unfold b_law21_E_Small WpR
  intro Q hQr hQn hQp
  by_cases h0 : A.length ≤ 300 ∧ f = true ∧ F.length ≤ 30 ∧ G.length ≤ 30
  · obtain ⟨h1, rfl, h3, h4⟩ := h0
    rw [decide_eq_true h1, decide_eq_true h3, decide_eq_true h4, Bool.true_and, Bool.true_and, Bool.true_and, Bool.true_and] at hE
    repeat' first | refine go_ ?_ | refine cf_ c1 ?_ | refine br_ (fun hw => ?_) (fun hw => ?_) <;> try omega | fail
    all_goals first | exact ab_ | skip
    with_reducible refine loop_i [2, 3, 28, 29, 30, 31, 32, 33, 34, 35, 36, 37, 38, 39, 40, 41, 42, 43] (fun q : Nat => [(3, I q)]) (fun _ => [.cells [.str A, I B, .lst false EV (C.map eVal), I D, .lst false E1 (F.map eInt), .lst false E1 (G.map eVals)]]) (fun q => q ≤ G.length ∧ ∀ k, k < q → fewV (G.getD k default) = true) (fun q => G.length - q) (0) ?_ ?_ ?_ ?_
    · simp
    · rfl
    · exact at_
    rintro i r ⟨g1, g2⟩
    by_cases hi : i < G.length
    · have c := cR i
      have e1 : (decide ((G.getD i default).length ≤ 12) && (G.getD i default).all valB) = fewV (G.getD i default) := rfl
      rw [e1] at c
      have hne := fun h => allF (p := fewV) hi h
      have hbs := fun he => before_succ (q := fun k => fewV (G.getD k default) = true) g2 (i := i) he
      generalize fewV (G.getD i default) = v at c hne hbs
      simp only [eVals] at c
      repeat' first | refine go_ ?_ | refine cf_ c ?_ | refine br_ (fun hw => ?_) (fun hw => ?_) <;> try omega | fail
      all_goals first
        | exact ab_
        | (exact leafE (by rw [← hE, hne (by simp_all)]) rfl)
        | (refine ⟨i + 1, ?_, ?_, ?_, ou_, at_⟩ <;> (try dsimp only)
           · exact ⟨by omega, hbs (by simp_all)⟩
           · omega
           all_goals (first | rfl | (simp [go_sem]; done)))
    · repeat' first | refine go_ ?_ | refine br_ (fun hw => ?_) (fun hw => ?_) <;> try omega | fail
      exact leafE (by rw [← hE, allN (fun k hk => g2 k (by omega))]) rfl
  · have hE2 : E = false := by
      rw [← hE]
      cases hx : (decide (A.length ≤ 300) && f && decide (F.length ≤ 30) && decide (G.length ≤ 30) && G.all fewV) with
      | false => rfl
      | true =>
        simp only [Bool.and_eq_true, decide_eq_true_eq] at hx
        exact absurd ⟨hx.1.1.1.1, hx.1.1.1.2, hx.1.1.2, hx.1.2⟩ h0
    subst hE2
    repeat' first | refine go_ ?_ | refine cf_ c1 ?_ | refine br_ (fun hw => ?_) (fun hw => ?_) <;> try omega | fail
    all_goals first
      | exact ab_
      | exact leafE rfl rfl
      | (exfalso; apply h0; simp_all; done)
      | (exfalso; apply h0; refine ⟨by omega, by simp_all, by omega, by omega⟩)
theorem bytesE_snd (e : Ent) : (bytesE e).2 = checkE e := by
  unfold bytesE
  split
  · rfl
  · rename_i h; exact (Classical.not_not.1 h).symm
theorem bytesE_len {e : Ent} (h : (bytesE e).2 = 0) : (bytesE e).1.length ≤ 1400 := by
  obtain ⟨h1, h2⟩ := bytesE_zero h
  rw [h2]; exact (checkE_zero h1).2
set_option maxHeartbeats 8000000 in
theorem law21_EntryBytes (x : Ent) (s : Str) (hr : rngEnt x) : CallF Tryz.prog n_law21_EntryBytes [eEnt x, .str s] (.bool true) := by
  have c0 := law21_Small x
  have cL := law21_lives
  by_cases h0 : smallE x = true ∧ s.length ≤ 3000
  · obtain ⟨hx, hs⟩ := h0
    rw [hx] at c0
    have ok := okEnt_small hx hr
    have b1 := entry_Bytes x ok
    have b2 := ref21_Bytes x ok
    have b3 := entry_Check x ok
    rw [← bytesE_snd] at b3
    have p1 := entry_Parse s (by omega)
    have p2 := ref21_Parse s (by omega)
    have oy := (parseE_ok (s := s) (by omega)).sm
    generalize parseE s = p at *
    obtain ⟨y, f⟩ := p
    have sm := ref21_Same y y oy oy
    rw [sameE_refl] at sm
    generalize bytesE x = b at *
    obtain ⟨bs, be⟩ := b
    clear hr ok oy hx
    simp only [eBE, eEP, eEnt, cEnt, eInts, eVals, eRows] at c0 b1 b2 b3 p1 p2 sm ⊢
    refine CallF.of_nil (of_law21_EntryBytes (by simp) ?_) (by simp)
    unfold b_law21_EntryBytes WpR
    intro Q hQr hQn hQp
    repeat' first | refine go_ ?_ | refine cf_ c0 ?_ | refine cf_ b1 ?_ | refine cf_ b2 ?_ | refine cf_ b3 ?_ | refine cf_ p1 ?_ | refine cf_ p2 ?_ | refine cf_ sm ?_ | refine cf_ cL ?_ | refine br_ (fun hw => ?_) (fun hw => ?_) <;> try omega | fail
    all_goals first | exact ab_ | exact leafE rfl rfl | skip
  · simp only [eEnt, cEnt, eInts, eVals, eRows] at c0 ⊢
    refine CallF.of_nil (of_law21_EntryBytes (by simp) ?_) (by simp)
    unfold b_law21_EntryBytes WpR
    intro Q hQr hQn hQp
    repeat' first | refine go_ ?_ | refine cf_ c0 ?_ | refine cf_ cL ?_ | refine br_ (fun hw => ?_) (fun hw => ?_) <;> try omega | fail
    all_goals first | exact ab_ | exact leafE rfl rfl | (exfalso; apply h0; refine ⟨by simp_all, by omega⟩)
set_option maxHeartbeats 8000000 in
theorem law21_EntryBack (x : Ent) (s : Str) (hr : rngEnt x) : CallF Tryz.prog n_law21_EntryBack [eEnt x, .str s] (.bool true) := by
  have c0 := law21_Small x
  have cL := law21_lives
  by_cases h0 : smallE x = true ∧ s.length ≤ 3000
  · obtain ⟨hx, hs⟩ := h0
    rw [hx] at c0
    have ok := okEnt_small hx hr
    have b1 := entry_Bytes x ok
    have q1 := fun h => entry_Parse (bytesE x).1 (by have := bytesE_len (e := x) h; omega)
    have q2 := fun h => parse_ent (e := x) ok h
    have q3 := fun h => bytesE_len (e := x) h
    have s1 := ref21_Same x x ok.sm ok.sm
    rw [sameE_refl] at s1
    have p1 := entry_Parse s (by omega)
    have oy := parseE_ok (s := s) (by omega)
    have cy := parseE_cases s
    have s0 := ref21_Same ent0 ent0 ok_ent0.sm ok_ent0.sm
    rw [sameE_refl] at s0
    generalize parseE s = p at *
    obtain ⟨y, f⟩ := p
    have b2 := entry_Bytes y oy
    have q : (bytesE x).2 = 0 → CallF Tryz.prog n_entry_Parse [.str (bytesE x).1] (eEP (x, 0)) := fun h => by have := q1 h; rwa [q2 h] at this
    clear q1 q2
    generalize bytesE x = b at *
    obtain ⟨bs, be⟩ := b
    dsimp only at q q3
    by_cases hb : be = 0
    · subst hb
      replace q := q rfl
      replace q3 := q3 rfl
      rcases cy with cy | ⟨cy1, cy2⟩
      · obtain ⟨rfl, rfl⟩ := Prod.mk.inj cy
        clear hr ok oy hx cy b2
        simp only [eBE, eEP, eEnt, cEnt, eInts, eVals, eRows] at c0 b1 q s1 p1 s0 ⊢
        simp only [ent0, List.map_nil] at p1 s0
        refine CallF.of_nil (of_law21_EntryBack (by simp) ?_) (by simp)
        unfold b_law21_EntryBack WpR
        intro Q hQr hQn hQp
        repeat' first | refine go_ ?_ | refine cf_ c0 ?_ | refine cf_ b1 ?_ | refine cf_ q ?_ | refine cf_ s1 ?_ | refine cf_ p1 ?_ | refine cv_ s0 ?_ | refine cf_ cL ?_ | refine br_ (fun hw => ?_) (fun hw => ?_) <;> try omega | fail
        all_goals first | exact ab_ | exact leafE rfl rfl | skip
      · dsimp only at cy1 cy2
        subst cy1
        rw [cy2] at b2
        clear hr ok oy hx s0
        simp only [eBE, eEP, eEnt, cEnt, eInts, eVals, eRows] at c0 b1 b2 q s1 p1 ⊢
        refine CallF.of_nil (of_law21_EntryBack (by simp) ?_) (by simp)
        unfold b_law21_EntryBack WpR
        intro Q hQr hQn hQp
        repeat' first | refine go_ ?_ | refine cf_ c0 ?_ | refine cf_ b1 ?_ | refine cf_ q ?_ | refine cf_ s1 ?_ | refine cf_ p1 ?_ | refine cf_ b2 ?_ | refine cf_ cL ?_ | refine br_ (fun hw => ?_) (fun hw => ?_) <;> try omega | fail
        all_goals first | exact ab_ | exact leafE rfl rfl | skip
    · rcases cy with cy | ⟨cy1, cy2⟩
      · obtain ⟨rfl, rfl⟩ := Prod.mk.inj cy
        clear hr ok oy hx cy b2 q q3
        simp only [eBE, eEP, eEnt, cEnt, eInts, eVals, eRows] at c0 b1 s1 p1 s0 ⊢
        simp only [ent0, List.map_nil] at p1 s0
        refine CallF.of_nil (of_law21_EntryBack (by simp) ?_) (by simp)
        unfold b_law21_EntryBack WpR
        intro Q hQr hQn hQp
        repeat' first | refine go_ ?_ | refine cf_ c0 ?_ | refine cf_ b1 ?_ | refine cf_ p1 ?_ | refine cv_ s0 ?_ | refine cf_ cL ?_ | refine br_ (fun hw => ?_) (fun hw => ?_) <;> try omega | fail
        all_goals first | exact ab_ | exact leafE rfl rfl | skip
      · dsimp only at cy1 cy2
        subst cy1
        rw [cy2] at b2
        clear hr ok oy hx s0 q q3
        simp only [eBE, eEP, eEnt, cEnt, eInts, eVals, eRows] at c0 b1 b2 s1 p1 ⊢
        refine CallF.of_nil (of_law21_EntryBack (by simp) ?_) (by simp)
        unfold b_law21_EntryBack WpR
        intro Q hQr hQn hQp
        repeat' first | refine go_ ?_ | refine cf_ c0 ?_ | refine cf_ b1 ?_ | refine cf_ p1 ?_ | refine cf_ b2 ?_ | refine cf_ cL ?_ | refine br_ (fun hw => ?_) (fun hw => ?_) <;> try omega | fail
        all_goals first | exact ab_ | exact leafE rfl rfl | skip
  · simp only [eEnt, cEnt, eInts, eVals, eRows] at c0 ⊢
    refine CallF.of_nil (of_law21_EntryBack (by simp) ?_) (by simp)
    unfold b_law21_EntryBack WpR
    intro Q hQr hQn hQp
    repeat' first | refine go_ ?_ | refine cf_ c0 ?_ | refine cf_ cL ?_ | refine br_ (fun hw => ?_) (fun hw => ?_) <;> try omega | fail
    all_goals first | exact ab_ | exact leafE rfl rfl | (exfalso; apply h0; refine ⟨by simp_all, by omega⟩)
end Go.Proofs.YtmbgnaoilncbnaaGreat
namespace Go.AM
open Go.ChangeShapes Go.WideShapes
section
variable {H : Type} {enc : TypeId × Value → H} {P : Program} {w w' : World} {base : Nat} {spare : Nat → Bool} {held : Bool}
theorem DataW_TrodAll_carry : ∀ {ts : List TypeId} {vs : List Value} {ds : List (DataW H)} {ps : List MemPlace}, DataW.TrodAll enc P w base spare held ts vs ds ps → (∀ p ∈ ps, w.sameAt w' p) → DataW.TrodAll enc P w' base spare held ts vs ds ps
  | [], [], [], _, h, _ => h
  | _ :: _, _ :: _, _ :: _, _, ⟨p, q, ⟨n, hn⟩, h2, e⟩, hs => ⟨p, q, ⟨n, DataW.trod_carry n _ _ _ hn (fun x hx => hs x (by rw [e]; exact List.mem_append_left _ hx))⟩, DataW_TrodAll_carry h2 (fun x hx => hs x (by rw [e]; exact List.mem_append_right _ hx)), e⟩
theorem keptBut_of_heap {may : MemPlace → Prop} (h1 : w'.os = w.os) (h2 : w'.output = w.output) (h3 : ∀ b, b < w.heap.size → w'.heap[b]? = w.heap[b]?) : w.keptBut w' may := by
  refine ⟨h1, h2, fun i hi => ?_⟩
  rw [h3 i hi]
  split
  · rename_i a b ha hb
    rw [ha] at hb
    cases Option.some.inj hb
    exact ⟨rfl, rfl, rfl, fun _ _ => rfl⟩
  · rename_i a b ha hb
    rw [ha] at hb
    cases Option.some.inj hb
    exact .inr ⟨rfl, rfl⟩
  · rfl
theorem sameAt_of_heap (h3 : ∀ b, b < w.heap.size → w'.heap[b]? = w.heap[b]?) {p : MemPlace} (hp : p.block < w.heap.size) : w.sameAt w' p := by
  cases p with
  | cell b off => exact cell?_of_heap (h3 b hp) off none
  | map b => exact h3 b hp
def Ghost.all (w : World) : Ghost := Ghost.bare (· < w.heap.size)
theorem Said_of_CallF {f : FuncId} {fn : Func} {s : ChangeSpec} {t : TypeId} {args' : List AV} {W : World} {args : Array Value} {ds gs : List (DataW H)} {before : List MemPlace}
    (h : CallF P f args' (.bool true)) (hW : DataW.Whole enc P fn.params.toList s.vars false W args.toList ds gs before) (hG : GlobR (Ghost.all W) W)
    (K : Kids P (· < P.types.size)) (hz : ∀ t e, t < P.types.size → P.underlying t = some (.slice e) → 0 < P.cellsOf e) (hps : ∀ t ∈ fn.params.toList, t < P.types.size)
    (hvars : s.vars = []) (hrt : fn.resultTypes = #[t]) (ht : P.underlying t = some .bool) (hfn : s.fn H (ds ++ gs) = { results := [.lit (.bool true)], args := ds, vars := [] })
    (hl : args'.length = args.size) (hv : ∀ i, i < args'.length → VR (Ghost.all W) W (args'.getD i .undef) (args.getD i Go.undef)) :
    Calls P f args W fun e W' => ∃ v, e = .returned v ∧ s.post enc P fn false true false false W args v W' := by
  refine ((h []).2 (Ghost.all W) W args (Rel.bare (fun _ h => h) hG) hl hv).mono ?_
  rintro e W' ⟨out, g', σ', hR, hE, hO, rfl, rfl⟩
  have hfr : ∀ b, b < W.heap.size → W'.heap[b]? = W.heap[b]? := fun b hb => hE.frame b hb not_tracked_nil
  cases e with
  | panicked c => exact hO.elim
  | outgrown => exact hO.elim
  | returned v =>
    have hb : v = .bool true := by cases hO; rfl
    subst hb
    refine ⟨_, rfl, ds, gs, before, [], before, [], hW, ?_, ?_, ?_, keptBut_of_heap hE.os hE.output hfr, fun h => by cases h⟩
    · rw [hfn, hrt]
      exact trodAll_mk1 (RowKit.shut_bool ht true)
    · rw [hfn]
      have hlt := hW.lt
      obtain ⟨p, q, h1, h2, rfl, _, _⟩ := hW
      rw [hvars] at h2
      obtain ⟨rfl, rfl⟩ := trodVars_none h2
      rw [List.append_nil] at hlt ⊢
      refine DataW_TrodAll_carry (DataW.TrodAll.respare K hz hps h1 (fun x hx => by simpa using hlt x hx)) (fun x hx => sameAt_of_heap hfr (hlt x hx))
    · rw [hfn, hvars]
      rfl
theorem VR.string {g : Ghost} {w : World} (s : ByteArray) : VR g w (.str s.data.toList) (.string s) := VR.str s.data.toList
end
end Go.AM
