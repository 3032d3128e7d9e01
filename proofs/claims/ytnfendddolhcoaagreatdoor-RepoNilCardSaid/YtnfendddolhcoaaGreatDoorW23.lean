/- Part of a proof: see Root. -/
import Derived.Test.YtnfendddolhcoaaGreatDoorW22
set_option linter.unnecessarySimpa false
set_option linter.unusedSectionVars false
set_option linter.unusedSimpArgs false
set_option linter.unusedVariables false
namespace Go.AM.B
variable [LV]
def IsQ (x : AExit) (t : Tr AV) (s : St) : AQ := fun x' e σ => x' = x ∧ e = t.get .undef ∧ σ = s.abs
theorem updK_ok {t : Tr AV} {d : Option Nat} {v : AV} {K : Tr AV → Bool} (h : updK t d v K = true) : ∃ t', t'.get .undef = upd (t.get .undef) d v ∧ K t' = true := by
  cases d with
  | none => exact ⟨t, rfl, h⟩
  | some d =>
    obtain ⟨t', h1, h2⟩ := Tr.setK_ok _ _ _ _ _ _ (show Tr.setK .undef 60 t d v K = true from h)
    exact ⟨t', funext fun m => h2 m, h1⟩
theorem gdP_ok {v : AV} {b : Bool} {K : Bool → Bool} (h : gdP v b K = true) : (∃ x, v = .bool x ∧ K (x == b) = true) ∨ (v = .tup [] ∧ K false = true) := by
  cases v <;> first | exact no h rfl | skip
  case bool x => replace h : K (beqB x b) = true := h; rw [beqB_eq] at h; exact .inl ⟨x, rfl, h⟩
  case tup vs => obtain ⟨h1, h2⟩ := bK_iff.1 (show bK (isNilL vs) (K false) = true from h); rw [isNilL_iff] at h1; subst h1; exact .inr ⟨rfl, h2⟩
section
variable {c : Ctx} {H : Prop}
theorem opsK_ex (hc : CtxOk H c) : ∀ (ops : List GOp) (Q : QK) (t : Tr AV) (s : St), opsK ops c Q t s = true → ∃ x t' s', Q x t' s' = true ∧ (H → runOps c.P (IsQ x t' s') ops (t.get .undef) s.abs)
  | [], Q, t, s, h => ⟨.normal, t, s, h, fun _ => ⟨rfl, rfl, rfl⟩⟩
  | ⟨o, d, gd⟩ :: r, Q, t, s, h => by
    have go : goOp o d (opsK r c) c Q t s = true → ∃ x t' s', Q x t' s' = true ∧ (H → o.run c.P (t.get .undef) s.abs (fun v σ' => runOps c.P (IsQ x t' s') r (upd (t.get .undef) d v) σ') (fun v σ' => IsQ x t' s' (.panic v) (t.get .undef) σ')) := fun h => by
      obtain ⟨out, s1, h1, h2⟩ := opK_ex hc (show AOp.K o c t s (fun v s' => updK t d v fun t' => opsK r c Q t' s') (fun v s' => Q (.panic v) t s') = true from h)
      cases out with
      | ret v =>
        obtain ⟨t1, e1, h3⟩ := updK_ok (show (updK t d v fun t' => opsK r c Q t' s1) = true from h1)
        obtain ⟨x, t', s', h4, h5⟩ := opsK_ex hc r Q t1 s1 h3
        refine ⟨x, t', s', h4, fun hH => run_mono ?_ ?_ (h2 hH)⟩
        · rintro v' σ' ⟨e2, rfl⟩
          cases e2
          rw [← e1]; exact h5 hH
        · rintro v' σ' ⟨e2, _⟩; cases e2
      | panic v =>
        refine ⟨.panic v, t, s1, h1, fun hH => run_mono ?_ ?_ (h2 hH)⟩
        · rintro v' σ' ⟨e2, _⟩; cases e2
        · rintro v' σ' ⟨e2, rfl⟩; cases e2; exact ⟨rfl, rfl, rfl⟩
    have sk : skOp d (opsK r c) Q t s = true → ∃ x t' s', Q x t' s' = true ∧ (H → runOps c.P (IsQ x t' s') r (upd (t.get .undef) d (.tup [])) s.abs) := fun h => by
      obtain ⟨t1, e1, h3⟩ := updK_ok (show (updK t d (.tup []) fun t' => opsK r c Q t' s) = true from h)
      obtain ⟨x, t', s', h4, h5⟩ := opsK_ex hc r Q t1 s h3
      exact ⟨x, t', s', h4, fun hH => by rw [← e1]; exact h5 hH⟩
    cases gd with
    | none => exact go h
    | some p =>
      obtain ⟨k, b⟩ := p
      replace h : (Tr.getK .undef t k fun v => gdP v b fun y => iK y (goOp o d (opsK r c) c Q t s) (skOp d (opsK r c) Q t s)) = true := h
      rw [Tr.getK_eq] at h
      simp only [runOps]
      rcases gdP_ok h with ⟨y, hy, h1⟩ | ⟨hy, h1⟩
      · rw [iK_eq] at h1
        rw [hy]
        dsimp only
        by_cases hyb : y = b
        · subst hyb
          rw [if_pos (by simp)] at h1
          obtain ⟨x, t', s', h2, h3⟩ := go h1
          have hu : upd (t.get .undef) (some k) (.bool y) = t.get .undef := by
            funext m; simp only [upd]; split
            · rename_i e; rw [e, hy]
            · rfl
          exact ⟨x, t', s', h2, fun hH => ⟨fun _ => by rw [hu]; exact h3 hH, fun hn => (by cases y <;> cases hn)⟩⟩
        · rw [if_neg (by simpa using hyb)] at h1
          obtain ⟨x, t', s', h2, h3⟩ := sk h1
          have hyb : y = !b := by cases y <;> cases b <;> simp_all
          subst hyb
          have hu : upd (t.get .undef) (some k) (.bool !b) = t.get .undef := by
            funext m; simp only [upd]; split
            · rename_i e; rw [e, hy]
            · rfl
          exact ⟨x, t', s', h2, fun hH => ⟨fun hn => (by cases b <;> cases hn), fun _ => by rw [hu]; exact h3 hH⟩⟩
      · obtain ⟨x, t', s', h2, h3⟩ := sk h1
        rw [hy]
        exact ⟨x, t', s', h2, h3⟩
theorem objK_eq (x : AV) : objK x = x.obj := by
  cases x <;> first | rfl | skip
  case asl el p n => cases p <;> rfl
theorem apart1_ok {x y : AV} (h : apart1 x y = true) : apartA x y := by
  intro l h1 h2
  unfold apart1 at h
  rw [objK_eq, objK_eq, h1, h2] at h
  replace h : notK (Nat.beq l l) = true := h
  rw [Nat.beq_refl] at h; cases h
theorem apartK_ok : ∀ (prs : List (AX × AX)) (t : Tr AV), apartK prs t = true → apartAll prs (t.get .undef)
  | [], _, _ => trivial
  | (x, y) :: r, t, h => by
    replace h : (evK x t fun a => evK y t fun b => bK (apart1 a b) (apartK r t)) = true := h
    rw [evK_eq, evK_eq, bK_iff] at h
    exact ⟨apart1_ok h.1, apartK_ok r t h.2⟩
theorem loop_one {body : AQ → Env → Store → Prop} (hm : ∀ {Q Q' : AQ}, (∀ ex e σ, Q ex e σ → Q' ex e σ) → ∀ e σ, body Q e σ → body Q' e σ) {Q : AQ} {e : Env} {σ : Store} {t1 : Tr AV} {s1 : St} (h1 : body (IsQ .normal t1 s1) e σ) (h2 : LoopA body Q (t1.get .undef) s1.abs) : LoopA body Q e σ := by
  obtain ⟨I, ⟨n0, hI⟩, hr⟩ := h2
  refine ⟨fun m e' σ' => I m e' σ' ∨ (m = n0 + 1 ∧ e' = e ∧ σ' = σ), ⟨n0 + 1, .inr ⟨rfl, rfl, rfl⟩⟩, ?_⟩
  rintro n e' σ' (h | ⟨rfl, rfl, rfl⟩)
  · refine hm ?_ _ _ (hr n e' σ' h)
    intro ex e2 σ2 hq
    cases ex with
    | normal => obtain ⟨m, h3, h4⟩ := hq; exact ⟨m, h3, .inl h4⟩
    | _ => exact hq
  · refine hm ?_ _ _ h1
    rintro ex e2 σ2 ⟨rfl, rfl, rfl⟩
    exact ⟨n0, Nat.lt_succ_self _, .inl hI⟩
def ScopeR (l : Nat) (rest : AQ → Env → Store → Prop) (Q : AQ) (e : Env) (σ : Store) : Prop := ∃ (J : Nat → Env → Store → Prop), (∃ n, J n e σ) ∧ ∀ n e σ, J n e σ → rest (jumpQ l (fun e' σ' => ∃ m, m < n ∧ J m e' σ') Q) e σ
theorem scope_one {l : Nat} {rest : AQ → Env → Store → Prop} (hm : ∀ {Q Q' : AQ}, (∀ ex e σ, Q ex e σ → Q' ex e σ) → ∀ e σ, rest Q e σ → rest Q' e σ) {Q : AQ} {e : Env} {σ : Store} {t1 : Tr AV} {s1 : St} (h1 : rest (IsQ (.goto l) t1 s1) e σ) (h2 : ScopeR l rest Q (t1.get .undef) s1.abs) : ScopeR l rest Q e σ := by
  obtain ⟨I, ⟨n0, hI⟩, hr⟩ := h2
  refine ⟨fun m e' σ' => I m e' σ' ∨ (m = n0 + 1 ∧ e' = e ∧ σ' = σ), ⟨n0 + 1, .inr ⟨rfl, rfl, rfl⟩⟩, ?_⟩
  rintro n e' σ' (h | ⟨rfl, rfl, rfl⟩)
  · refine hm ?_ _ _ (hr n e' σ' h)
    intro ex e2 σ2 hq
    cases ex with
    | goto l' => obtain ⟨h0, m, h3, h4⟩ := hq; exact ⟨h0, m, h3, .inl h4⟩
    | _ => exact hq
  · refine hm ?_ _ _ h1
    rintro ex e2 σ2 ⟨rfl, rfl, rfl⟩
    exact ⟨rfl, n0, Nat.lt_succ_self _, .inl hI⟩
theorem codeK_all : ∀ (co : ACode) (V : LV) (hc : CtxOk H c) (Q : QK) (t : Tr AV) (s : St), codeK co c Q t s = true → ∃ x t' s', Q x t' s' = true ∧ (H → wpA c.P co (IsQ x t' s') (t.get .undef) s.abs) := by
  intro co
  induction co with
  | skip => intro V hc Q t s h; exact ⟨.normal, t, s, h, fun _ => ⟨rfl, rfl, rfl⟩⟩
  | region ops => intro V hc Q t s h; exact opsK_ex hc ops Q t s h
  | draw ops prs =>
    intro V hc Q t s h
    obtain ⟨x, t', s', h1, h2⟩ := opsK_ex hc ops (condK prs Q) t s h
    have key : ∀ {Q0 : Prop}, (∀ ex e σ, IsQ x t' s' ex e σ → condQ prs (IsQ x t' s') ex e σ) → Q x t' s' = true → ∃ x t' s', Q x t' s' = true ∧ (H → wpA c.P (.draw ops prs) (IsQ x t' s') (t.get .undef) s.abs) := fun hm h => ⟨x, t', s', h, fun hH => (wpA_mono (c := .region ops) hm _ _ (h2 hH) : wpA c.P (.region ops) _ _ _)⟩
    cases x with
    | normal =>
      replace h1 : bK (apartK prs t') (Q .normal t' s') = true := h1
      rw [bK_iff] at h1
      exact key (Q0 := True) (by rintro ex e σ ⟨rfl, rfl, rfl⟩; exact ⟨apartK_ok _ _ h1.1, rfl, rfl, rfl⟩) h1.2
    | exit i => exact key (Q0 := True) (by rintro ex e σ ⟨rfl, rfl, rfl⟩; exact ⟨rfl, rfl, rfl⟩) h1
    | goto i => exact key (Q0 := True) (by rintro ex e σ ⟨rfl, rfl, rfl⟩; exact ⟨rfl, rfl, rfl⟩) h1
    | ret => exact key (Q0 := True) (by rintro ex e σ ⟨rfl, rfl, rfl⟩; exact ⟨rfl, rfl, rfl⟩) h1
    | panic v =>
      replace h1 : bK (notK (flagged prs)) (Q (.panic v) t' s') = true := h1
      rw [bK_iff] at h1
      have hf : flagged prs = false := by
        cases hh : flagged prs with
        | false => rfl
        | true => rw [hh] at h1; exact Bool.noConfusion (show false = true from h1.1)
      exact key (Q0 := True) (by rintro ex e σ ⟨rfl, rfl, rfl⟩; show (if flagged prs then _ else _); rw [if_neg (by rw [hf]; decide)]; exact ⟨rfl, rfl, rfl⟩) h1.2
  | seq a b iha ihb =>
    intro V hc Q t s h
    obtain ⟨x, t1, s1, h1, h2⟩ := iha V hc (thenK (codeK b c Q) Q) t s h
    have out : x ≠ .normal → Q x t1 s1 = true → ∃ x t' s', Q x t' s' = true ∧ (H → wpA c.P (.seq a b) (IsQ x t' s') (t.get .undef) s.abs) := fun hx h => by
      refine ⟨x, t1, s1, h, fun hH => ?_⟩
      simp only [wpA]
      exact wpA_mono (by rintro ex e σ ⟨rfl, rfl, rfl⟩; cases ex <;> first | exact absurd rfl hx | exact ⟨rfl, rfl, rfl⟩) _ _ (h2 hH)
    cases x with
    | normal =>
      obtain ⟨x, t', s', h3, h4⟩ := ihb V hc Q t1 s1 h1
      refine ⟨x, t', s', h3, fun hH => ?_⟩
      simp only [wpA]
      exact wpA_mono (by rintro ex e σ ⟨rfl, rfl, rfl⟩; exact h4 hH) _ _ (h2 hH)
    | exit i => exact out (by simp) h1
    | goto i => exact out (by simp) h1
    | ret => exact out (by simp) h1
    | panic v => exact out (by simp) h1
  | cond x a b iha ihb =>
    intro V hc Q t s h
    replace h : (evK x t fun v => onBool v fun y => iK y (codeK a c Q t s) (codeK b c Q t s)) = true := h
    rw [evK_eq] at h
    obtain ⟨y, hx, h1⟩ := onBool_ok h
    rw [iK_eq] at h1
    simp only [wpA, hx]
    cases y with
    | true => obtain ⟨x, t', s', h2, h3⟩ := iha V hc Q t s h1; exact ⟨x, t', s', h2, fun hH => ⟨fun _ => h3 hH, fun h => (by cases h)⟩⟩
    | false => obtain ⟨x, t', s', h2, h3⟩ := ihb V hc Q t s h1; exact ⟨x, t', s', h2, fun hH => ⟨fun h => (by cases h), fun _ => h3 hH⟩⟩
  | block id a ih =>
    intro V hc Q t s h
    obtain ⟨x, t1, s1, h1, h2⟩ := ih V hc (blockK id Q) t s h
    have key : ∀ y, Q y t1 s1 = true → (∀ e σ, IsQ y t1 s1 y e σ → blockQ id (IsQ y t1 s1) x e σ) → ∃ x t' s', Q x t' s' = true ∧ (H → wpA c.P (.block id a) (IsQ x t' s') (t.get .undef) s.abs) := fun y h hm => by
      refine ⟨y, t1, s1, h, fun hH => ?_⟩
      simp only [wpA]
      exact wpA_mono (by rintro ex e σ ⟨rfl, h5, h6⟩; exact hm e σ ⟨rfl, h5, h6⟩) _ _ (h2 hH)
    cases x with
    | exit i =>
      replace h1 : iK (Nat.beq i id) (Q .normal t1 s1) (Q (.exit i) t1 s1) = true := h1
      rw [iK_eq, nbeq'] at h1
      by_cases e : i = id
      · rw [if_pos (decide_eq_true e)] at h1; exact key .normal h1 (fun e' σ h => by simp only [blockQ, if_pos e]; exact h)
      · rw [if_neg (fun h => e (of_decide_eq_true h))] at h1; exact key (.exit i) h1 (fun e' σ h => by simp only [blockQ, if_neg e]; exact h)
    | normal => exact key .normal h1 (fun _ _ h => h)
    | goto i => exact key (.goto i) h1 (fun _ _ h => h)
    | ret => exact key .ret h1 (fun _ _ h => h)
    | panic v => exact key (.panic v) h1 (fun _ _ h => h)
  | loop a ih =>
    intro V hc Q t s h
    have key : ∀ (n : Nat) (t : Tr AV) (s : St), loopB n (codeK a c) Q t s = true → ∃ x t' s', Q x t' s' = true ∧ (H → LoopA (wpA c.P a) (IsQ x t' s') (t.get .undef) s.abs) := by
      intro n
      induction n with
      | zero => intro t s h; exact no h rfl
      | succ n ihn =>
        intro t s h
        obtain ⟨x, t1, s1, h1, h2⟩ := ih V hc (thenK (loopB n (codeK a c) Q) Q) t s h
        have out : x ≠ .normal → Q x t1 s1 = true → ∃ x t' s', Q x t' s' = true ∧ (H → LoopA (wpA c.P a) (IsQ x t' s') (t.get .undef) s.abs) := fun hx h =>
          ⟨x, t1, s1, h, fun hH => ⟨fun m e σ => m = 0 ∧ e = t.get .undef ∧ σ = s.abs, ⟨0, rfl, rfl, rfl⟩, by
            rintro m e σ ⟨rfl, rfl, rfl⟩
            exact wpA_mono (by rintro ex e σ ⟨rfl, rfl, rfl⟩; cases ex <;> first | exact absurd rfl hx | exact ⟨rfl, rfl, rfl⟩) _ _ (h2 hH)⟩⟩
        cases x with
        | normal =>
          obtain ⟨x, t', s', h3, h4⟩ := ihn t1 s1 h1
          exact ⟨x, t', s', h3, fun hH => loop_one (fun hm e σ h => wpA_mono hm e σ h) (h2 hH) (h4 hH)⟩
        | exit i => exact out (by simp) h1
        | goto i => exact out (by simp) h1
        | ret => exact out (by simp) h1
        | panic v => exact out (by simp) h1
    exact key 1000000 t s h
  | exit id => intro V hc Q t s h; exact ⟨.exit id, t, s, h, fun _ => ⟨rfl, rfl, rfl⟩⟩
  | ret => intro V hc Q t s h; exact ⟨.ret, t, s, h, fun _ => ⟨rfl, rfl, rfl⟩⟩
  | scope l a r iha ihr =>
    intro V hc Q t s h
    have key : ∀ (n : Nat) (t : Tr AV) (s : St), scopeB l n (codeK r c) Q t s = true → ∃ x t' s', Q x t' s' = true ∧ (H → ScopeR l (wpA c.P r) (IsQ x t' s') (t.get .undef) s.abs) := by
      intro n
      induction n with
      | zero => intro t s h; exact no h rfl
      | succ n ihn =>
        intro t s h
        obtain ⟨x, t1, s1, h1, h2⟩ := ihr V hc (jumpK l (scopeB l n (codeK r c) Q) Q) t s h
        have out : (∀ i, x ≠ .goto i) → Q x t1 s1 = true → ∃ x t' s', Q x t' s' = true ∧ (H → ScopeR l (wpA c.P r) (IsQ x t' s') (t.get .undef) s.abs) := fun hx h =>
          ⟨x, t1, s1, h, fun hH => ⟨fun m e σ => m = 0 ∧ e = t.get .undef ∧ σ = s.abs, ⟨0, rfl, rfl, rfl⟩, by
            rintro m e σ ⟨rfl, rfl, rfl⟩
            exact wpA_mono (by rintro ex e σ ⟨rfl, rfl, rfl⟩; cases ex <;> first | exact absurd rfl (hx _) | exact ⟨rfl, rfl, rfl⟩) _ _ (h2 hH)⟩⟩
        cases x with
        | goto i =>
          replace h1 : bK (Nat.beq i l) (scopeB l n (codeK r c) Q t1 s1) = true := h1
          rw [bK_iff, nbeq] at h1
          obtain ⟨rfl, h1⟩ := h1
          obtain ⟨x, t', s', h3, h4⟩ := ihn t1 s1 h1
          exact ⟨x, t', s', h3, fun hH => scope_one (fun hm e σ h => wpA_mono hm e σ h) (h2 hH) (h4 hH)⟩
        | normal => exact out (by simp) h1
        | exit i => exact out (by simp) h1
        | ret => exact out (by simp) h1
        | panic v => exact out (by simp) h1
    obtain ⟨x, t1, s1, h1, h2⟩ := iha V hc (jumpK l (scopeB l 1000000 (codeK r c) Q) Q) t s h
    have out : (∀ i, x ≠ .goto i) → Q x t1 s1 = true → ∃ x t' s', Q x t' s' = true ∧ (H → wpA c.P (.scope l a r) (IsQ x t' s') (t.get .undef) s.abs) := fun hx h =>
      ⟨x, t1, s1, h, fun hH => ⟨fun _ _ _ => False, wpA_mono (by rintro ex e σ ⟨rfl, rfl, rfl⟩; cases ex <;> first | exact absurd rfl (hx _) | exact ⟨rfl, rfl, rfl⟩) _ _ (h2 hH), fun _ _ _ h => h.elim⟩⟩
    cases x with
    | goto i =>
      replace h1 : bK (Nat.beq i l) (scopeB l 1000000 (codeK r c) Q t1 s1) = true := h1
      rw [bK_iff, nbeq] at h1
      obtain ⟨rfl, h1⟩ := h1
      obtain ⟨x, t', s', h3, h4⟩ := key _ t1 s1 h1
      refine ⟨x, t', s', h3, fun hH => ?_⟩
      obtain ⟨J, ⟨n0, hJ⟩, hr⟩ := h4 hH
      exact ⟨J, wpA_mono (by rintro ex e σ ⟨rfl, rfl, rfl⟩; exact ⟨rfl, n0, hJ⟩) _ _ (h2 hH), hr⟩
    | normal => exact out (by simp) h1
    | exit i => exact out (by simp) h1
    | ret => exact out (by simp) h1
    | panic v => exact out (by simp) h1
  | label l => intro V hc Q t s h; exact ⟨.normal, t, s, h, fun _ => ⟨rfl, rfl, rfl⟩⟩
  | goto l => intro V hc Q t s h; exact ⟨.goto l, t, s, h, fun _ => ⟨rfl, rfl, rfl⟩⟩
  | rng f nt ps ca cb a b iha ihb =>
    intro V hc Q t s h
    replace h : (evK f t fun g => onFn g fun fn a' b' => onFunc fn fun n => s.pushK (.loop .rdy) fun l s1 => bK (freshG l c.gam) (appendK a' (.yld l :: b') fun az => c.cal ((l, yieldK l ps (codeK a c) (codeK b c) t) :: c.gam) n az s1 (endLK l Q t))) = true := h
    rw [evK_eq] at h
    obtain ⟨fn, a', b', hx, h1⟩ := onFn_ok h
    obtain ⟨n, rfl, h2⟩ := onFunc_ok h1
    obtain ⟨s1, e1, h3⟩ := St.pushK_ok' h2
    rw [bK_iff, appendK_eq] at h3
    obtain ⟨hfr, h3⟩ := h3
    replace hfr := freshG_ok hfr
    obtain ⟨L, hL⟩ : ∃ L, s.n = L := ⟨_, rfl⟩
    rw [hL] at h3 hfr
    obtain ⟨d, hd⟩ : ∃ d : LD, d = ⟨nt, t.get .undef, ps.toArray, ca, cb⟩ := ⟨_, rfl⟩
    obtain ⟨V', hV⟩ : ∃ V' : LV, V'.v L = d ∧ ∀ i, i ≠ L → V'.v i = V.v i := ⟨⟨fun i => if i = L then d else V.v i⟩, by simp, fun i hi => by simp [hi]⟩
    let Y : Prop := ∀ (σ' : Store) (args : List AV) (R : Out → Store → Prop), σ'[L]? = some (d.obj .ready none) → args.length = ps.length →
      wpA c.P a (asgQ L (d.obj .ready none) (d.obj .busy none) (wpA c.P b (rndQ L d.obj R))) (putArgs ps args (t.get .undef)) σ' → YieldA c.P L args σ' R
    have hΓ : @GamOk V' c.P (H ∧ Y) ((L, yieldK L ps (codeK a c) (codeK b c) t) :: c.gam) := by
      intro V2 hV2 p hp az s K hk
      have hag : ∀ q ∈ c.gam, V2.v q.1 = V.v q.1 := fun q hq => (hV2 q (List.mem_cons_of_mem _ hq)).trans (hV.2 _ (hfr q hq))
      have hL2 : V2.v L = d := (hV2 (L, _) (List.mem_cons_self ..)).trans hV.1
      rcases List.mem_cons.1 hp with rfl | hp
      · replace hk : bK (lenK az 0 fun n => lenK ps 0 (Nat.beq n)) (s.getK L fun ob => onLoop ob fun m => isRdy m (putArgsK ps az t fun t1 => codeK a c (asgK L (codeK b c) K) t1 s)) = true := hk
        have hc2 := hc.at V2 hag
        have objs : ∀ (m : LM), (OB.loop m).abs L = d.obj m.st m.pe := fun m => by simp only [OB.abs, hL2]
        rw [bK_iff, len0, len0, nbeq] at hk
        obtain ⟨k1, k2⟩ := hk
        obtain ⟨ob, k3, k4⟩ := St.getK_ok k2
        obtain ⟨m, rfl, k5⟩ := onLoop_ok k4
        obtain ⟨rfl, k6⟩ := isRdy_ok k5
        obtain ⟨t1, e2, k7⟩ := putArgsK_ok ps az t k6
        obtain ⟨x, t2, s2, k8, k9⟩ := iha V2 hc2 _ _ _ k7
        cases x with
        | exit i => exact no k8 rfl
        | goto i => exact no k8 rfl
        | ret => exact no k8 rfl
        | panic v => exact no k8 rfl
        | normal =>
        obtain ⟨ob2, j1, j2⟩ := St.getK_ok (show (s2.getK L fun ob => onLoop ob fun m => isRdy m (s2.setK L (.loop .bsy) fun s' => codeK b c (rndK L K) t2 s')) = true from k8)
        obtain ⟨m2, rfl, j3⟩ := onLoop_ok j2
        obtain ⟨rfl, j4⟩ := isRdy_ok j3
        obtain ⟨s3, j5, j6⟩ := St.setK_ok j4
        obtain ⟨x, t4, s4, j7, j8⟩ := ihb V2 hc2 _ _ _ j6
        obtain ⟨ob3, i1, i2⟩ := St.getK_ok (show (s4.getK L fun ob => onLoop ob fun m => isBsy m (@AExit.rec (fun _ => Bool)
          (s4.setK L (.loop .rdy) fun s' => K (.ret (.bool true)) s')
          (fun i => s4.setK L (.loop (.ex i)) fun s' => K (.ret (.bool false)) s')
          (fun i => s4.setK L (.loop (.gt i)) fun s' => K (.ret (.bool false)) s')
          (s4.setK L (.loop .ret) fun s' => K (.ret (.bool false)) s')
          (fun _ => false) x)) = true from j7)
        obtain ⟨m4, rfl, i3⟩ := onLoop_ok i2
        obtain ⟨rfl, i4⟩ := isBsy_ok i3
        rw [objs] at k3 j1 j5 i1
        obtain ⟨out, s5, f1, f2⟩ : ∃ out s5, K out s5 = true ∧ rndQ L d.obj (fun o2 σ2 => o2 = out ∧ σ2 = s5.abs) x (t4.get .undef) s4.abs := by
          have put : ∀ (m : LM) (r : Bool), (s4.setK L (.loop m) fun s' => K (.ret (.bool r)) s') = true → ∃ s5, K (.ret (.bool r)) s5 = true ∧ s5.abs = s4.abs.set L (d.obj m.st m.pe) := fun m r h => by
            obtain ⟨s5, g1, g2⟩ := St.setK_ok h
            rw [objs] at g1
            exact ⟨s5, g2, g1⟩
          cases x with
          | normal => obtain ⟨s5, g1, g2⟩ := put .rdy true i4; exact ⟨_, s5, g1, i1, rfl, g2.symm⟩
          | exit i => obtain ⟨s5, g1, g2⟩ := put (.ex i) false i4; exact ⟨_, s5, g1, i1, rfl, g2.symm⟩
          | goto i => obtain ⟨s5, g1, g2⟩ := put (.gt i) false i4; exact ⟨_, s5, g1, i1, rfl, g2.symm⟩
          | ret => obtain ⟨s5, g1, g2⟩ := put .ret false i4; exact ⟨_, s5, g1, i1, rfl, g2.symm⟩
          | panic v => exact no i4 rfl
        refine ⟨out, s5, f1, fun ⟨hH, hY⟩ => hY _ _ _ k3 k1 ?_⟩
        have k9 := k9 hH
        rw [e2] at k9
        refine wpA_mono ?_ _ _ k9
        rintro ex e σ ⟨rfl, rfl, rfl⟩
        refine ⟨j1, ?_⟩
        have j8 := j8 hH
        rw [j5] at j8
        exact wpA_mono (by rintro ex e σ ⟨rfl, rfl, rfl⟩; exact f2) _ _ j8
      · obtain ⟨o', s', k1, k2⟩ := @CtxOk.gam V H c hc V2 hag p hp az s K hk
        exact ⟨o', s', k1, fun hH => k2 hH.1⟩
    obtain ⟨out, s2, f1, f2⟩ := @CtxOk.cal V H c hc V' _ _ hΓ _ _ _ _ h3
    cases out with
    | panic v => exact no f1 rfl
    | ret r =>
    replace f1 : (s2.getK L fun ob => onLoop ob fun m => s2.setK L .non fun s' => @LM.rec (fun _ => Bool) (Q .normal t s') false (Q .ret t s') (fun i => Q (.exit i) t s') (fun i => Q (.goto i) t s') m) = true := f1
    obtain ⟨ob, g1, g2⟩ := @St.getK_ok V' _ _ _ f1
    obtain ⟨m, rfl, g3⟩ := onLoop_ok g2
    obtain ⟨s3, g4, g5⟩ := St.setK_ok' g3
    have e3 : @St.abs V' s3 = (@St.abs V' s2).set L .dead := @St.abs_set V' _ _ _ _ g4
    have e4 : @St.abs V' s3 = @St.abs V s3 := St.abs_at fun i hi => by
      by_cases e : i = L
      · subst e; exact .inr (by rw [g4.2.2]; simp)
      · exact .inl (hV.2 i e)
    have e5 : @St.abs V' s1 = @St.abs V s ++ [d.obj .ready none] := by
      have h6 : @St.abs V' s = @St.abs V s := St.abs_at fun i hi => .inl (hV.2 i (by omega))
      rw [@St.abs_push V' _ _ _ e1, h6]
      congr 2
      rw [@St.abs_len V, hL]
      simp only [OB.abs, hV.1]
      rfl
    have g1' : (@St.abs V' s2)[L]? = some (d.obj m.st m.pe) := by
      rw [g1]
      simp only [OB.abs, hV.1]
    obtain ⟨x, hq, hend⟩ : ∃ x, Q x t s3 = true ∧ ∀ K' : AQ, K' x (t.get .undef) (@St.abs V s3) → endQ L d.obj K' (t.get .undef) (.ret r) (@St.abs V' s2) := by
      rw [← e4, e3]
      cases m with
      | rdy => exact ⟨.normal, g5, fun K' hk => ⟨_, _, g1', by simp [LM.st], hk⟩⟩
      | bsy => exact no g5 rfl
      | ret => exact ⟨.ret, g5, fun K' hk => ⟨_, _, g1', by simp [LM.st], hk⟩⟩
      | ex i => exact ⟨.exit i, g5, fun K' hk => ⟨_, _, g1', by simp [LM.st], hk⟩⟩
      | gt i => exact ⟨.goto i, g5, fun K' hk => ⟨_, _, g1', by simp [LM.st], hk⟩⟩
    refine ⟨x, t, s3, hq, fun hH => ?_⟩
    simp only [wpA, hx]
    intro o ho hy
    have hod : o = d.obj := by funext st pe; rw [ho, hd]; rfl
    subst hod
    rw [@St.abs_len V, hL] at hy ⊢
    have f2 := f2 ⟨hH, hy⟩
    rw [e5] at f2
    rw [List.append_assoc]
    refine f2.mono ?_
    rintro o' σ' ⟨rfl, rfl⟩
    exact hend _ ⟨rfl, rfl, rfl⟩
  | stop => intro V hc Q t s h; exact no h rfl
theorem codeK_ex (hc : CtxOk H c) (co : ACode) (Q : QK) (t : Tr AV) (s : St) : codeK co c Q t s = true → ∃ x t' s', Q x t' s' = true ∧ (H → wpA c.P co (IsQ x t' s') (t.get .undef) s.abs) := codeK_all co _ hc Q t s
theorem resK_ex : ∀ (rs : List ARes) (t : Tr AV) (s : St) (K : List AV → Bool), resK rs t s K = true → ∃ vs, K vs = true ∧ ∀ K' : List AV → Prop, K' vs → resA (t.get .undef) s.abs rs K'
  | [], t, s, K, h => ⟨[], h, fun _ h => h⟩
  | .tmp n :: r, t, s, K, h => by
    replace h : (Tr.getK .undef t n fun v => resK r t s fun vs => K (v :: vs)) = true := h
    rw [Tr.getK_eq] at h
    obtain ⟨vs, h1, h2⟩ := resK_ex r t s _ h
    exact ⟨_, h1, fun K' h => h2 _ h⟩
  | .cell n ag m :: r, t, s, K, h => by
    replace h : (Tr.getK .undef t n fun p => loadK p s ag m fun v => resK r t s fun vs => K (v :: vs)) = true := h
    rw [Tr.getK_eq] at h
    obtain ⟨v, h0, h1⟩ := loadA_ex (loadK_ok (K' := fun v => (resK r t s fun vs => K (v :: vs)) = true) h fun _ h => h)
    obtain ⟨vs, h2, h3⟩ := resK_ex r t s _ h1
    refine ⟨v :: vs, h2, fun K' h => ?_⟩
    have h0 := h0 []
    rw [List.append_nil] at h0
    exact loadA_mono (fun v' e => by subst e; exact h3 _ h) h0
theorem oneK_eq (vs : List AV) (K : AV → Bool) : oneK vs K = K (oneOf vs) := by
  match vs with
  | [] => rfl
  | [_] => rfl
  | _ :: _ :: _ => rfl
theorem env0 {args : List AV} {nt : Nat} {K : Nat → Tr AV → Bool} (h : ofK .undef args 0 .nil K = true) : ∃ n t, K n t = true ∧ t.get .undef = envOf args := by
  obtain ⟨t, h1, h2⟩ := ofK_ok _ _ _ _ _ h
  refine ⟨_, t, h1, funext fun m => ?_⟩
  rw [h2]
  simp only [envOf, Nat.zero_le, true_and, Nat.zero_add, Nat.sub_zero]
  by_cases e : m < args.length
  · rw [if_pos e]
  · rw [if_neg e, List.getD_eq_getElem?_getD, List.getElem?_eq_none (by omega)]; rfl
theorem retK_ok {rs : List ARes} {K : Out → St → Bool} {x : AExit} {t : Tr AV} {s : St} (h : retK rs K x t s = true) : ∃ o, K o s = true ∧ retQ rs (fun o' σ' => o' = o ∧ σ' = s.abs) x (t.get .undef) s.abs := by
  have r : (resK rs t s fun vs => oneK vs fun v => K (.ret v) s) = true → ∃ o, K o s = true ∧ resA (t.get .undef) s.abs rs fun vs => (Out.ret (oneOf vs)) = o ∧ s.abs = s.abs := fun h => by
    obtain ⟨vs, h1, h2⟩ := resK_ex _ _ _ _ h
    rw [oneK_eq] at h1
    exact ⟨_, h1, h2 _ ⟨rfl, rfl⟩⟩
  cases x with
  | normal => exact r h
  | ret => exact r h
  | panic v => exact ⟨.panic v, h, rfl, rfl⟩
  | exit i => exact no h rfl
  | goto i => exact no h rfl
theorem mvsK_ok {K : Tr AV → Bool} : ∀ (l : List (AX × Option Nat)) (t : Tr AV), mvsK l t K = true → ∃ t', K t' = true ∧ ∀ K' : Env → Prop, K' (t'.get .undef) → mvsA l K' (t.get .undef)
  | [], t, h => ⟨t, h, fun _ h => h⟩
  | (x, d) :: r, t, h => by
    replace h : (evK x t fun v => updK t d v fun t' => mvsK r t' K) = true := h
    rw [evK_eq] at h
    obtain ⟨t1, e1, h1⟩ := updK_ok h
    obtain ⟨t', h2, h3⟩ := mvsK_ok r t1 h1
    exact ⟨t', h2, fun K' h => by have := h3 K' h; rw [e1] at this; exact this⟩
theorem defK2_ex (hc : CtxOk H c) {n : FuncId} {args : List AV} {pv : Option AV} {s : St} {K : St → Bool} (h : defK2 c n args (pv.getD .nili) s K = true) : ∃ s', K s' = true ∧ (H → DefA c.P n args pv s.abs fun σ' => σ' = s'.abs) := by
  unfold defK2 at h
  generalize hr : tblR2 c.P c.hs n = ro at h
  cases ro with
  | none => exact no h rfl
  | some rf =>
    cases rf with | mk nt k k2 gs =>
    replace h : bK (lenK args 0 fun m => Nat.ble m nt) (ofK .undef args 0 .nil fun _ t => Tr.setK .undef 60 t k (pv.getD .nili) fun t => opsK gs c (endK K) t s) = true := h
    rw [bK_iff, len0, nble, decide_eq_true_eq] at h
    obtain ⟨_, t, h1, e1⟩ := env0 (nt := nt) h.2
    obtain ⟨t1, h2, h3⟩ := Tr.setK_ok _ _ _ _ _ _ h1
    obtain ⟨x, t3, s', h6, h7⟩ := opsK_ex hc _ _ _ _ h2
    have e2 : t1.get .undef = upd (envOf args) (some k) (pv.getD .nili) := by
      funext m; rw [h3, e1]; rfl
    have hx : (x = .normal ∨ x = .ret) ∧ K s' = true := by
      cases x with
      | normal => exact ⟨.inl rfl, h6⟩
      | ret => exact ⟨.inr rfl, h6⟩
      | _ => exact no h6 rfl
    refine ⟨s', hx.2, fun hH => ?_⟩
    unfold tblR2 at hr
    split at hr
    · rename_i fn hfn
      split at hr
      · cases hr
      · rename_i hnm
        refine DefA.of_wp2 hfn hnm hr h.1 ?_
        show runOps c.P (endR fun σ' => σ' = s'.abs) gs (upd (envOf args) (some k) (pv.getD .nili)) s.abs
        rw [← e2]
        refine (wpA_mono (c := .region gs) ?_ _ _ (h7 hH) : wpA c.P (.region gs) _ _ _)
        rintro ex e σ ⟨rfl, rfl, rfl⟩
        rcases hx.1 with rfl | rfl <;> exact rfl
    · cases hr
theorem defK_ex (hc : CtxOk H c) {n : FuncId} {args : List AV} {pv : Option AV} {s : St} {K : St → Bool} (h : defK c n args (pv.getD .nili) s K = true) : ∃ s', K s' = true ∧ (H → DefA c.P n args pv s.abs fun σ' => σ' = s'.abs) := by
  unfold defK at h
  generalize hr : tblR c.P c.hs n = ro at h
  cases ro with
  | none => exact defK2_ex hc h
  | some rf =>
    cases rf with | mk nt k mvs rest =>
    replace h : bK (lenK args 0 fun m => Nat.ble m nt) (ofK .undef args 0 .nil fun _ t => Tr.setK .undef 60 t k (pv.getD .nili) fun t => mvsK mvs t fun t => codeK rest c (endK K) t s) = true := h
    rw [bK_iff, len0, nble, decide_eq_true_eq] at h
    obtain ⟨_, t, h1, e1⟩ := env0 (nt := nt) h.2
    obtain ⟨t1, h2, h3⟩ := Tr.setK_ok _ _ _ _ _ _ h1
    obtain ⟨t2, h4, h5⟩ := mvsK_ok _ _ h2
    obtain ⟨x, t3, s', h6, h7⟩ := codeK_ex hc _ _ _ _ h4
    have e2 : t1.get .undef = upd (envOf args) (some k) (pv.getD .nili) := by
      funext m; rw [h3, e1]; rfl
    have hx : (x = .normal ∨ x = .ret) ∧ K s' = true := by
      cases x with
      | normal => exact ⟨.inl rfl, h6⟩
      | ret => exact ⟨.inr rfl, h6⟩
      | _ => exact no h6 rfl
    refine ⟨s', hx.2, fun hH => ?_⟩
    unfold tblR at hr
    split at hr
    · rename_i fn hfn
      split at hr
      · cases hr
      · rename_i hnm
        refine DefA.of_wp hfn hnm hr h.1 ?_
        show mvsA mvs (fun e => wpA c.P rest (endR fun σ' => σ' = s'.abs) e s.abs) (upd (envOf args) (some k) (pv.getD .nili))
        rw [← e2]
        refine h5 _ (wpA_mono ?_ _ _ (h7 hH))
        rintro ex e σ ⟨rfl, rfl, rfl⟩
        rcases hx.1 with rfl | rfl <;> exact rfl
    · cases hr
theorem dfrK_ok (hc : CtxOk H c) {rs : List ARes} {K : Out → St → Bool} {n : FuncId} {args : List AV} {x : AExit} {t : Tr AV} {s : St} (h : dfrK c rs K n args x t s = true) : ∃ o s', K o s' = true ∧ (H → dfrQ c.P rs (fun o' σ' => o' = o ∧ σ' = s'.abs) n args x (t.get .undef) s.abs) := by
  have r : ∀ pv : Option AV, (defK c n args (pv.getD .nili) s fun s' => resK rs t s' fun vs => oneK vs fun v => K (.ret v) s') = true → ∃ o s', K o s' = true ∧ (H → DefA c.P n args pv s.abs fun σ' => resA (t.get .undef) σ' rs fun vs => (Out.ret (oneOf vs)) = o ∧ σ' = s'.abs) := fun pv h => by
    obtain ⟨s', h1, h2⟩ := defK_ex hc h
    obtain ⟨vs, h3, h4⟩ := resK_ex _ _ _ _ h1
    rw [oneK_eq] at h3
    refine ⟨_, s', h3, fun hH => ⟨(h2 hH).1, fun g w us u a1 a2 a3 a4 => ((h2 hH).2 g w us u a1 a2 a3 a4).mono ?_⟩⟩
    rintro e u' w' ⟨g', σ', v, b1, b2, b3, b4, rfl⟩
    exact ⟨g', _, v, b1, b2, b3, b4, h4 _ ⟨rfl, rfl⟩⟩
  cases x with
  | normal => exact r none h
  | ret => exact r none h
  | panic v => exact r (some v) h
  | exit i => exact no h rfl
  | goto i => exact no h rfl
theorem dcodeK_ex (hc : CtxOk H c) {rs : List ARes} {K : Out → St → Bool} : ∀ (d : DCode) (t : Tr AV) (s : St), dcodeK d c (retK rs K) (dfrK c rs K) t s = true → ∃ o s', K o s' = true ∧ (H → d.wp c.P (retQ rs fun o' σ' => o' = o ∧ σ' = s'.abs) (dfrQ c.P rs fun o' σ' => o' = o ∧ σ' = s'.abs) (t.get .undef) s.abs) := by
  intro d
  induction d with
  | seq a d ih =>
    intro t s h
    obtain ⟨x, t1, s1, h1, h2⟩ := codeK_ex hc a _ t s (show codeK a c (thenK (dcodeK d c (retK rs K) (dfrK c rs K)) (retK rs K)) t s = true from h)
    have out : x ≠ .normal → retK rs K x t1 s1 = true → ∃ o s', K o s' = true ∧ (H → (DCode.seq a d).wp c.P (retQ rs fun o' σ' => o' = o ∧ σ' = s'.abs) (dfrQ c.P rs fun o' σ' => o' = o ∧ σ' = s'.abs) (t.get .undef) s.abs) := fun hx h => by
      obtain ⟨o, h3, h4⟩ := retK_ok h
      refine ⟨o, s1, h3, fun hH => wpA_mono ?_ _ _ (h2 hH)⟩
      rintro ex e σ ⟨rfl, rfl, rfl⟩
      cases ex <;> first | exact absurd rfl hx | exact h4
    cases x with
    | normal =>
      obtain ⟨o, s', h3, h4⟩ := ih t1 s1 h1
      exact ⟨o, s', h3, fun hH => wpA_mono (by rintro ex e σ ⟨rfl, rfl, rfl⟩; exact h4 hH) _ _ (h2 hH)⟩
    | exit i => exact out (by simp) h1
    | goto i => exact out (by simp) h1
    | ret => exact out (by simp) h1
    | panic v => exact out (by simp) h1
  | dfr ops y rest =>
    intro t s h
    obtain ⟨x, t1, s1, h1, h2⟩ := opsK_ex hc ops _ t s (show opsK ops c (thenK (fun t s => evK y t fun v => onFn v fun f a b => onFunc f fun n => appendK a b fun az => codeK rest c (dfrK c rs K n az) t s) (retK rs K)) t s = true from h)
    have mono : H → ∀ {Q' : AQ}, (∀ ex e σ, IsQ x t1 s1 ex e σ → Q' ex e σ) → runOps c.P Q' ops (t.get .undef) s.abs := fun hH _ hm => (wpA_mono (c := .region ops) hm _ _ (h2 hH) : wpA c.P (.region ops) _ _ _)
    have out : x ≠ .normal → retK rs K x t1 s1 = true → ∃ o s', K o s' = true ∧ (H → (DCode.dfr ops y rest).wp c.P (retQ rs fun o' σ' => o' = o ∧ σ' = s'.abs) (dfrQ c.P rs fun o' σ' => o' = o ∧ σ' = s'.abs) (t.get .undef) s.abs) := fun hx h => by
      obtain ⟨o, h3, h4⟩ := retK_ok h
      refine ⟨o, s1, h3, fun hH => mono hH ?_⟩
      rintro ex e σ ⟨rfl, rfl, rfl⟩
      cases ex <;> first | exact absurd rfl hx | exact h4
    cases x with
    | normal =>
      replace h1 : (evK y t1 fun v => onFn v fun f a b => onFunc f fun n => appendK a b fun az => codeK rest c (dfrK c rs K n az) t1 s1) = true := h1
      rw [evK_eq] at h1
      obtain ⟨f, a, b, hv, h3⟩ := onFn_ok h1
      obtain ⟨n, rfl, h4⟩ := onFunc_ok h3
      rw [appendK_eq] at h4
      obtain ⟨x2, t2, s2, h5, h6⟩ := codeK_ex hc rest _ t1 s1 h4
      obtain ⟨o, s', h7, h8⟩ := dfrK_ok hc h5
      refine ⟨o, s', h7, fun hH => mono hH ?_⟩
      rintro ex e σ ⟨rfl, rfl, rfl⟩
      show (match y.ev (t1.get .undef) with | .fn (.func n) first cap => wpA c.P rest (dfrQ c.P rs _ n (first ++ cap)) (t1.get .undef) s1.abs | _ => False)
      rw [hv]
      exact wpA_mono (by rintro ex e σ ⟨rfl, rfl, rfl⟩; exact h8 hH) _ _ (h6 hH)
    | exit i => exact out (by simp) h1
    | goto i => exact out (by simp) h1
    | ret => exact out (by simp) h1
    | panic v => exact out (by simp) h1
end
def ExtOk (P : Program) (ex : FuncId → Option XFun) : Prop := ∀ n f, ex n = some f → ∀ (V : LV) args s K y, f args s K y = true → y = true ∨ ∃ r s1, K r s1 = true ∧ CallA P n args s.abs fun o σ1 => o = .ret r ∧ σ1 = s1.abs
theorem callK_ok {P : Program} {ne : FuncId → Bool} (hne : NeOk P ne) (hs : FuncId → Hints) (df : FuncId → Bool) {ex : FuncId → Option XFun} (hx : ExtOk P ex) : ∀ (f : Nat) (V : LV) (H : Prop) (Γ : Gam), GamOk P H Γ → ∀ (n : FuncId) (args : List AV) (s : St) (K : Out → St → Bool), callK P ne hs df ex f Γ n args s K = true → ∃ o s', K o s' = true ∧ (H → CallA P n args s.abs fun o' σ' => o' = o ∧ σ' = s'.abs) := by
  intro f
  induction f with
  | zero => intro V H Γ hΓ n args s K h; exact no h rfl
  | succ f ih =>
    intro V H Γ hΓ n args s K h
    have hc : CtxOk H ⟨P, ne, hs, callK P ne hs df ex f, Γ⟩ := ⟨hne, ih, hΓ⟩
    replace h : @Option.rec XFun (fun _ => Bool) (callB P ne hs df (callK P ne hs df ex f) Γ n args s K) (fun f' => f' args s (fun r s1 => K (.ret r) s1) (callB P ne hs df (callK P ne hs df ex f) Γ n args s K)) (ex n) = true := h
    have h : callB P ne hs df (callK P ne hs df ex f) Γ n args s K = true ∨ ∃ r s1, K (.ret r) s1 = true ∧ CallA P n args s.abs fun o σ1 => o = .ret r ∧ σ1 = s1.abs := by
      cases hxn : ex n with
      | some xf =>
        rw [hxn] at h
        exact hx n xf hxn _ _ _ _ _ (show xf args s (fun r s1 => K (.ret r) s1) (callB P ne hs df (callK P ne hs df ex f) Γ n args s K) = true from h)
      | none => rw [hxn] at h; exact .inl h
    rcases h with h | ⟨r, s1, h1, h2⟩
    case inr => exact ⟨.ret r, s1, h1, fun _ => h2⟩
    unfold callB at h
    rw [iK_eq] at h
    split at h
    · generalize hr : tblD P hs n = ro at h
      cases ro with
      | none => exact no h rfl
      | some af =>
        cases af with | mk nt rs body =>
        replace h : bK (lenK args 0 fun k => Nat.ble k nt) (ofK .undef args 0 .nil fun _ t => dcodeK body ⟨P, ne, hs, callK P ne hs df ex f, Γ⟩ (retK rs K) (dfrK ⟨P, ne, hs, callK P ne hs df ex f, Γ⟩ rs K) t s) = true := h
        rw [bK_iff, len0, nble, decide_eq_true_eq] at h
        obtain ⟨_, t, h1, e1⟩ := env0 (nt := nt) h.2
        obtain ⟨o, s', h2, h3⟩ := dcodeK_ex hc body t s h1
        refine ⟨o, s', h2, fun hH => ?_⟩
        unfold tblD at hr
        split at hr
        · rename_i fn hfn
          split at hr
          · cases hr
          · rename_i hnm
            refine CallA.of_dfr hfn hnm hr h.1 ?_
            rw [← e1]; exact h3 hH
        · cases hr
    · generalize hr : tblE P hs n = ro at h
      cases ro with
      | none => exact no h rfl
      | some af =>
        cases af with | mk nt rs body =>
        replace h : bK (lenK args 0 fun k => Nat.ble k nt) (ofK .undef args 0 .nil fun _ t => codeK body ⟨P, ne, hs, callK P ne hs df ex f, Γ⟩ (retK rs K) t s) = true := h
        rw [bK_iff, len0, nble, decide_eq_true_eq] at h
        obtain ⟨_, t, h1, e1⟩ := env0 (nt := nt) h.2
        obtain ⟨x, t1, s1, h2, h3⟩ := codeK_ex hc body _ t s h1
        obtain ⟨o, h4, h5⟩ := retK_ok h2
        refine ⟨o, s1, h4, fun hH => ?_⟩
        unfold tblE at hr
        split at hr
        · rename_i fn hfn
          split at hr
          · cases hr
          · rename_i hnm
            refine CallA.of_wp hfn hnm hr h.1 ?_
            rw [← e1]
            exact wpA_mono (by rintro ex e σ ⟨rfl, rfl, rfl⟩; exact h5) _ _ (h3 hH)
        · cases hr
theorem run_call {P : Program} {ne : FuncId → Bool} (hne : NeOk P ne) (hs : FuncId → Hints) (df : FuncId → Bool) {ex : FuncId → Option XFun} (hx : ExtOk P ex) {f : Nat} {n : FuncId} {args : List AV} {K : Out → St → Bool} (h : callK P ne hs df ex f [] n args ⟨0, .nil⟩ K = true) : ∃ o s', K o s' = true ∧ CallA P n args [] fun o' σ' => o' = o ∧ σ' = s'.abs := by
  obtain ⟨o, s', h1, h2⟩ := callK_ok hne hs df hx f _ True [] (fun _ _ _ hp => by cases hp) n args ⟨0, .nil⟩ K h
  exact ⟨o, s', h1, h2 trivial⟩
instance : LV := ⟨fun _ => default⟩
end Go.AM.B
namespace Go.AM
variable {P : Program}
section
variable (e : Env) (σ : Store) (K Kp : AV → Store → Prop) (x y z : AX)
def xT (P : Program) (o : XOp) (vs : List AV) (σ : Store) {K Kp : AV → Store → Prop} (_ : Tg (K, Kp)) : Prop := o.run P vs σ K Kp
variable (k k' : IntKind) (a b : Int) (el : El) (xs ys cs : List AV) (l m lo n o i : Nat) (f f' : Bool)
def lkF (v : AV) (σ : Store) (r : Option (Option (Nat × AV))) {K : AV → Store → Prop} (_ : Tg K) : Prop := match r with
  | some (some (_, u)) => K u σ
  | some none => K v σ
  | none => False
def lkO (v q : AV) (σ : Store) (o : Option AObj) {K : AV → Store → Prop} (t : Tg K) : Prop := match o with
  | some (.map es) => lkF v σ (mapFind q es 0) t
  | _ => False
@[go_sem] theorem x_lkup (kd : Option IntKind) (v q : AV) : xT P (.lkup kd false v) [.mp l, q] σ (.mk : Tg (K, Kp)) = req (q.keyK kd = true) (.mk : Tg (lkO v q σ (σ[l]?) (.mk : Tg K))) := by
  rw [← and_req]
  show (q.keyK kd = true ∧ match σ[l]? with
    | some (.map es) => match mapFind q es 0 with
      | some (some (_, v)) => K v σ
      | some none => K v σ
      | none => False
    | _ => False) = _
  unfold lkO
  cases σ[l]? with
  | none => rfl
  | some ob =>
    cases ob <;> rfl
def msF (l : Nat) (σ : Store) (r : Option (List (AV × AV))) {K : AV → Store → Prop} (_ : Tg K) : Prop := match r with
  | some es' => K (.tup []) (σ.set l (.map es'))
  | none => False
def msO (l : Nat) (q v : AV) (σ : Store) (o : Option AObj) {K : AV → Store → Prop} (t : Tg K) : Prop := match o with
  | some (.map es) => msF l σ (mapSet q v es) t
  | _ => False
@[go_sem] theorem x_mapset (kd : Option IntKind) (q v : AV) : xT P (.mapset kd) [.mp l, q, v] σ (.mk : Tg (K, Kp)) = req (q.keyK kd = true) (.mk : Tg (msO l q v σ (σ[l]?) (.mk : Tg K))) := by
  rw [← and_req]
  show (q.keyK kd = true ∧ match σ[l]? with
    | some (.map es) => match mapSet q v es with
      | some es' => K (.tup []) (σ.set l (.map es'))
      | none => False
    | _ => False) = _
  unfold msO
  cases σ[l]? with
  | none => rfl
  | some ob =>
    cases ob <;> rfl
def apxO (σ : Store) (el : El) (l m lo n : Nat) (ys : List AV) (ob : Option AObj) {K : AV → Store → Prop} (_ : Tg K) : Prop := match ob with
  | some (.vecT _ el'' xs) => el'' = el ∧ m = xs.length ∧ lo + 1 + n = m ∧ roomOk (n + ys.length) el ∧ K (.own el σ.length (n + ys.length) 0 (n + ys.length)) (σ.set l .dead ++ [.vec el (xs.drop (lo + 1) ++ ys)])
  | _ => False
end
end Go.AM
