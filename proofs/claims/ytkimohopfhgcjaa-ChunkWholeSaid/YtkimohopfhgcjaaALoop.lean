/- Loops: carried slots, slots that are written, the others. -/
import Derived.Test.YtkimohopfhgcjaaAEval2
namespace Go.AM
set_option linter.unusedSimpArgs false
set_option linter.unusedVariables false
set_option linter.unnecessarySimpa false
variable {P : Program}

/-- Slots that a loop writes are whatever they are, the others as they were. -/
def ovl (ms : List Nat) (r e : Env) : Env := fun t => if ms.contains t then r t else e t
def puts : List (Nat × AV) → Env → Env
  | [], e => e
  | (d, v) :: l, e => upd (puts l e) (some d) v
@[go_sem ↓] theorem puts_nil (e : Env) : puts [] e = e := _root_.id rfl
@[go_sem ↓] theorem puts_cons (d : Nat) (v : AV) (l : List (Nat × AV)) (e : Env) : puts ((d, v) :: l) e = upd (puts l e) (some d) v := _root_.id rfl
@[go_sem ↓] theorem ovl_app (ms : List Nat) (r e : Env) (t : Nat) : ovl ms r e t = pickT (ms.contains t) (.mk : Tg (r t, e t)) := _root_.id rfl
/-- Outside of ms the two agree. -/
def Out? (ms : List Nat) (e e' : Env) : Prop := ∀ t, ms.contains t = false → e' t = e t
theorem out_ovl (ms : List Nat) (r e : Env) : Out? ms e (ovl ms r e) := fun t h => by simp only [ovl, h]; rfl
theorem out_upd {ms : List Nat} {e e' : Env} {d : Nat} {v : AV} (hd : ms.contains d = true) (h : Out? ms e e') : Out? ms e (upd e' (some d) v) := fun t ht => by
  simp only [upd]
  split
  · rename_i e1; subst e1; rw [hd] at ht; cases ht
  · exact h t ht
def At (l : List (Nat × AV)) (e : Env) : Prop := ∀ p ∈ l, e p.1 = p.2
@[go_sem] theorem at_nil (e : Env) : At [] e = True := by simp [At]
@[go_sem] theorem at_cons (d : Nat) (v : AV) (l : List (Nat × AV)) (e : Env) : At ((d, v) :: l) e = (e d = v ∧ At l e) := by simp [At]
theorem puts_of {ms : List Nat} {e e' : Env} (ho : Out? ms e e') : ∀ (l : List (Nat × AV)), At l e' → puts l (ovl ms e' e) = e'
  | [], _ => by
    funext t
    simp only [puts, ovl]
    split
    · rfl
    · rename_i h; exact (ho t (by simpa using h)).symm
  | (d, v) :: l, h => by
    simp only [puts]
    rw [puts_of ho l (fun p hp => h p (List.mem_cons_of_mem _ hp))]
    exact upd_same (h (d, v) (by simp))

theorem runOps_mono {Q Q' : AQ} (h : ∀ ex e σ, Q ex e σ → Q' ex e σ) : ∀ (l : List GOp) (e : Env) (σ : Store), runOps P Q l e σ → runOps P Q' l e σ
  | [], e, σ, hh => h _ _ _ hh
  | ⟨o, d, none⟩ :: r, e, σ, hh => run_mono (fun v s => runOps_mono h r _ _) (fun v s => h _ _ _) hh
  | ⟨o, d, some (k, b)⟩ :: r, e, σ, hh => by
    simp only [runOps] at hh ⊢
    split at hh
    · exact ⟨fun ht => run_mono (fun v s => runOps_mono h r _ _) (fun v s => h _ _ _) (hh.1 ht), fun ht => runOps_mono h r _ _ (hh.2 ht)⟩
    · exact runOps_mono h r _ _ hh
    · exact hh
theorem thenQ_mono {K K' : Env → Store → Prop} {Q Q' : AQ} (hk : ∀ e σ, K e σ → K' e σ) (h : ∀ ex e σ, Q ex e σ → Q' ex e σ) : ∀ ex e σ, thenQ K Q ex e σ → thenQ K' Q' ex e σ
  | .normal, _, _ => hk _ _
  | .exit _, _, _ => h _ _ _
  | .goto _, _, _ => h _ _ _
  | .ret, _, _ => h _ _ _
  | .panic _, _, _ => h _ _ _
theorem RngA_mono {nt : Nat} {ps : List Nat} {f : AV} {a b : AQ → Env → Store → Prop} {Q Q' : AQ} (h : ∀ ex e σ, Q ex e σ → Q' ex e σ) (e : Env) (σ : Store) : RngA P nt ps f a b Q e σ → RngA P nt ps f a b Q' e σ := by
  unfold RngA
  split
  · refine fun hh o ho hy => (hh o ho hy).mono fun out s hq => ?_
    cases out with
    | ret r =>
      obtain ⟨st, pe, h1, h2, h3⟩ := hq
      refine ⟨st, pe, h1, h2, ?_⟩
      split at h3 <;> first | exact h _ _ _ h3 | exact h3
    | panic v => exact h _ _ _ hq
  · exact id
theorem wpA_mono {c : ACode} : ∀ {Q Q' : AQ}, (∀ ex e σ, Q ex e σ → Q' ex e σ) → ∀ (e : Env) (σ : Store), wpA P c Q e σ → wpA P c Q' e σ := by
  induction c with
  | skip => exact fun h e σ => h _ _ _
  | region ops => exact fun h e σ => runOps_mono h ops e σ
  | draw ops prs => exact fun h e σ => runOps_mono (fun ex e σ hq => by cases ex <;> first | exact ⟨hq.1, h _ _ _ hq.2⟩ | exact h _ _ _ hq) ops e σ
  | seq a b iha ihb => exact fun h e σ => iha (thenQ_mono (fun e σ => ihb h e σ) h) e σ
  | cond c a b iha ihb =>
    intro Q Q' h e σ hh
    simp only [wpA] at hh ⊢
    split at hh
    · exact ⟨fun ht => iha h _ _ (hh.1 ht), fun ht => ihb h _ _ (hh.2 ht)⟩
    · exact hh
  | block id c ih =>
    intro Q Q' h e σ
    refine ih (fun ex e σ hq => ?_) e σ
    cases ex <;> try exact h _ _ _ hq
    simp only [blockQ] at hq ⊢
    split at hq
    · rename_i e1; rw [if_pos e1]; exact h _ _ _ hq
    · rename_i e1; rw [if_neg e1]; exact h _ _ _ hq
  | loop c ih =>
    rintro Q Q' h e σ ⟨I, hI, hr⟩
    exact ⟨I, hI, fun n e σ hi => ih (thenQ_mono (fun _ _ h => h) h) _ _ (hr n e σ hi)⟩
  | exit id => exact fun h e σ => h _ _ _
  | ret => exact fun h e σ => h _ _ _
  | scope l c r ihc ihr =>
    rintro Q Q' h e σ ⟨J, h1, h2⟩
    have hj : ∀ (J : Env → Store → Prop) ex e σ, jumpQ l J Q ex e σ → jumpQ l J Q' ex e σ := fun J ex e σ hq => by
      cases ex <;> first | exact h _ _ _ hq | exact hq
    exact ⟨J, ihc (hj _) _ _ h1, fun n e σ hi => ihr (hj _) _ _ (h2 n e σ hi)⟩
  | stop => exact fun h e σ hh => hh
  | rng f nt ps a b _ _ => exact fun h e σ => RngA_mono h e σ
  | label l => exact fun h e σ => h _ _ _
  | goto l => exact fun h e σ => h _ _ _

/-- What a round leaves. -/
def RoundA {α : Type} (ms : List Nat) (cs : α → List (Nat × AV)) (S : α → Store) (A : α → Prop) (μ : α → Nat) (e : Env) (x : α) (e' : Env) (σ' : Store) : Prop :=
  ∃ x', A x' ∧ μ x' < μ x ∧ σ' = S x' ∧ Out? ms e e' ∧ At (cs x') e'

theorem loop_i {c : ACode} {Q : AQ} {e : Env} {σ : Store} {α : Type} (ms : List Nat) (cs : α → List (Nat × AV)) (S : α → Store) (A : α → Prop) (μ : α → Nat) (x0 : α) (h0 : A x0) (hσ : σ = S x0) (hat : At (cs x0) e)
    (hr : ∀ x r, A x → wpA P c (thenQ (RoundA ms cs S A μ e x) Q) (puts (cs x) (ovl ms r e)) (S x)) : loopK P (.mk : Tg (c, Q, e, σ)) := by
  refine ⟨fun n e' σ' => ∃ x, A x ∧ Out? ms e e' ∧ At (cs x) e' ∧ σ' = S x ∧ μ x = n, ⟨_, x0, h0, fun _ _ => rfl, hat, hσ, rfl⟩, ?_⟩
  rintro n e' σ' ⟨x1, a1, o1, t1, rfl, rfl⟩
  have h := hr x1 e' a1
  rw [puts_of o1 _ t1] at h
  refine wpA_mono (fun ex e2 σ2 hq => ?_) _ _ h
  cases ex <;> try exact hq
  obtain ⟨x', a', hm, hs, ho, ht⟩ := hq
  exact ⟨_, hm, x', a', ho, ht, hs, rfl⟩
end Go.AM
