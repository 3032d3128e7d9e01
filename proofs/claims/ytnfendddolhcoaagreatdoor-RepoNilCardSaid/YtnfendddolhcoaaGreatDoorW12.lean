/- Part of a proof: see Root. -/
import Derived.Test.YtnfendddolhcoaaGreatDoorW11
set_option linter.unnecessarySimpa false
set_option linter.unusedSectionVars false
set_option linter.unusedSimpArgs false
set_option linter.unusedVariables false
namespace Go.AM
def GOp.uses (g : GOp) : List Nat := g.op.uses ++ (match g.guard with | some (k, _) => [k] | none => [])
def runOne (P : Program) (Q : AQ) (g : GOp) (K : Env → Store → Prop) (e : Env) (σ : Store) : Prop :=
  match g.guard with
  | none => g.op.run P e σ (fun v σ' => K (upd e g.dst v) σ') (fun v σ' => Q (.panic v) e σ')
  | some (k, b) => match e k with
    | .bool t => (t = b → g.op.run P (upd e (some k) (.bool b)) σ (fun v σ' => K (upd (upd e (some k) (.bool b)) g.dst v) σ') (fun v σ' => Q (.panic v) (upd e (some k) (.bool b)) σ')) ∧
        (t = !b → K (upd (upd e (some k) (.bool (!b))) g.dst (.tup [])) σ)
    | .tup [] => K (upd e g.dst (.tup [])) σ
    | _ => False
theorem upd_same {e : Env} {k : Nat} {v : AV} (h : e k = v) : upd e (some k) v = e := by
  funext n; simp only [upd]; split
  · rename_i h1; subst h1; exact h.symm
  · rfl
section
variable {P : Program} {Q : AQ}
theorem runOps_one (g : GOp) (r : List GOp) (e : Env) (σ : Store) : runOps P Q (g :: r) e σ = runOne P Q g (runOps P Q r) e σ := by
  obtain ⟨o, d, gd⟩ := g
  cases gd with
  | none => rfl
  | some kb => obtain ⟨k, b⟩ := kb; rfl
def GOp.D (P : Program) (g : GOp) (e : Env) (σ : Store) (v : AV) (σ' : Store) : Prop :=
  match g.guard with
  | none => g.op.D P e σ v σ'
  | some (k, b) => match e k with
    | .bool t => if t = b then g.op.D P e σ v σ' else v = .tup [] ∧ σ' = σ
    | .tup [] => v = .tup [] ∧ σ' = σ
    | _ => False
theorem GD_cases {g : GOp} {e : Env} {σ : Store} {v : AV} {σ' : Store} (h : g.D P e σ v σ') : (g.op.D P e σ v σ' ∧ ∀ s u s', g.op.D P e s u s' → g.D P e s u s') ∨ (v = .tup [] ∧ σ' = σ ∧ ∀ s, g.D P e s (.tup []) s) := by
  unfold GOp.D at *
  split at h
  · exact .inl ⟨h, fun _ _ _ h => h⟩
  · split at h
    · split at h
      · rename_i h1 h2; simp only [if_pos h2]; exact .inl ⟨h, fun _ _ _ h => h⟩
      · rename_i h1 h2; simp only [if_neg h2]; exact .inr ⟨h.1, h.2, fun _ => ⟨trivial, trivial⟩⟩
    · exact .inr ⟨h.1, h.2, fun _ => ⟨rfl, rfl⟩⟩
    · exact h.elim
theorem one_iff {g : GOp} {K : Env → Store → Prop} {e : Env} {σ : Store} (hc : g.op.cls ≠ .no) : runOne P Q g K e σ ↔ ∃ v σ', g.D P e σ v σ' ∧ K (upd e g.dst v) σ' := by
  unfold runOne GOp.D
  split
  · exact run_iff hc
  · rename_i k b hg
    split
    · rename_i t ht
      by_cases htb : t = b
      · subst htb
        rw [upd_same ht]
        simp only [↓reduceIte]
        constructor
        · exact fun h => (run_iff hc).1 (h.1 trivial)
        · exact fun h => ⟨fun _ => (run_iff hc).2 h, fun h => by cases t <;> cases h⟩
      · have hn : t = !b := by cases t <;> cases b <;> simp_all
        have hs : upd e (some k) (.bool (!b)) = e := upd_same (by rw [ht, hn])
        simp only [if_neg htb, hs]
        constructor
        · exact fun h => ⟨_, σ, ⟨rfl, rfl⟩, h.2 hn⟩
        · rintro ⟨v, τ, ⟨rfl, rfl⟩, h⟩
          exact ⟨fun h' => absurd h' htb, fun _ => h⟩
    · constructor
      · exact fun h => ⟨_, σ, ⟨rfl, rfl⟩, h⟩
      · rintro ⟨v, τ, ⟨rfl, rfl⟩, h⟩
        exact h
    · constructor
      · exact fun h => h.elim
      · exact fun ⟨_, _, h, _⟩ => h.elim
theorem one_mono {g : GOp} {K K' : Env → Store → Prop} {e : Env} {σ : Store} (h : ∀ e σ, K e σ → K' e σ) : runOne P Q g K e σ → runOne P Q g K' e σ := by
  unfold runOne
  split
  · exact run_mono (fun v s => h _ _) (fun _ _ h => h)
  · split
    · exact fun hh => ⟨fun ht => run_mono (fun v s => h _ _) (fun _ _ h => h) (hh.1 ht), fun ht => h _ _ (hh.2 ht)⟩
    · exact h _ _
    · exact id
theorem GD_congr {g : GOp} {e e' : Env} {σ : Store} {v : AV} {σ' : Store} (h : ∀ t ∈ g.uses, e t = e' t) (hD : g.D P e σ v σ') : g.D P e' σ v σ' := by
  have ho : ∀ t ∈ g.op.uses, e t = e' t := fun t ht => h t (List.mem_append_left _ ht)
  unfold GOp.D at *
  split at hD
  · rename_i hg; exact D_congr ho hD
  · rename_i k b hg
    have hk : e k = e' k := h k (by simp [GOp.uses, hg])
    rw [← hk]
    split at hD
    · split at hD
      · rename_i h1 h2; simp only [h1, if_pos h2]; exact D_congr ho hD
      · rename_i h1 h2; simp only [h1, if_neg h2]; exact hD
    · simp_all
    · exact hD.elim
theorem GD_same {g : GOp} {e : Env} {σ : Store} {v : AV} {σ' : Store} (hc : g.op.cls = .pu ∨ g.op.cls = .rd) (hD : g.D P e σ v σ') : σ' = σ := by
  rcases GD_cases hD with ⟨h, _⟩ | ⟨_, h, _⟩
  · exact D_same hc h
  · exact h
theorem GD_push {g : GOp} {e : Env} {σ : Store} {v : AV} {σ' : Store} (hc : g.op.cls = .pu ∨ g.op.cls = .rd) (hD : g.D P e σ v σ') (τ : Store) : g.D P e (σ ++ τ) v (σ ++ τ) := by
  rcases GD_cases hD with ⟨h, f⟩ | ⟨rfl, _, f⟩
  · exact f _ _ _ (D_push hc h τ)
  · exact f _
theorem GD_pure {g : GOp} {e : Env} {σ : Store} {v : AV} {σ' : Store} (hc : g.op.cls = .pu) (hD : g.D P e σ v σ') (s : Store) : g.D P e s v s := by
  rcases GD_cases hD with ⟨h, f⟩ | ⟨rfl, _, f⟩
  · exact f _ _ _ (D_pure hc h s)
  · exact f _
theorem GD_al {g : GOp} {e : Env} {σ : Store} {v : AV} {σ' : Store} (hc : g.op.cls = .al) (hD : g.D P e σ v σ') : ∃ τ, σ' = σ ++ τ := by
  rcases GD_cases hD with ⟨h, _⟩ | ⟨_, h, _⟩
  · exact D_al hc h
  · exact ⟨[], by simp [h]⟩
theorem GD_set {g : GOp} {e : Env} {σ : Store} {v : AV} {σ' : Store} {l : Nat} {ob ob' : AObj} {rx : Option AX} (hr : g.op.readsAt = some rx) (hl : σ[l]? = some ob) (hlike : ob.like ob') (hap : ∀ x, rx = some x → (x.ev e).obj ≠ some l) (hD : g.D P e σ v σ') :
    g.D P e (σ.set l ob') v (σ.set l ob') := by
  rcases GD_cases hD with ⟨h, f⟩ | ⟨rfl, _, f⟩
  · exact f _ _ _ (D_set hr hl hlike hap h)
  · exact f _
theorem GD_st {g : GOp} {e : Env} {σ : Store} {v : AV} {σ' : Store} (hc : g.op.cls = .st) (hD : g.D P e σ v σ') : σ' = σ ∨ ∃ y l ob ob', g.op.storesAt = some y ∧ σ[l]? = some ob ∧ ob.like ob' ∧ (y.ev e).obj = some l ∧ σ' = σ.set l ob' := by
  rcases GD_cases hD with ⟨h, _⟩ | ⟨_, h, _⟩
  · exact .inr (D_st hc h)
  · exact .inl h
def apartSlot (d : Option Nat) (l : List Nat) : Bool := match d with
  | some d => !l.contains d
  | none => true
def hasLd (ag : Bool) (n t : Nat) : List (Bool × Nat) → List AX → Bool
  | (ag', n') :: r, .t t' :: xs => (ag == ag' && n == n' && t == t') || hasLd ag n t r xs
  | _ :: r, _ :: xs => hasLd ag n t r xs
  | _, _ => false
def loadIn : AOp → AOp → Bool
  | .load ag n (.t t), .ex (.cw _ k lds) az => n != 0 && hasLd ag n t lds (az.drop k)
  | _, _ => false
def resvIn : AOp → AOp → Bool
  | .ex (.cw _ c lds) az, .allocAt k _ cs => hasLd true 0 k lds (az.drop c) && cs.all AV.cst
  | _, _ => false
def okCls (j k : AOp) : Bool :=
  match j.cls, k.cls with
  | .no, _ | _, .no => false
  | .pu, _ | _, .pu => true
  | .rd, .rd | .rd, .al => true
  | .rd, .st => j.readsAt.isSome
  | .st, .st => match j.resAt, k.resAt with
    | some a, some b => a != b
    | _, _ => false
  | .st, .rd => j.storesAt.isSome && k.readsOf.isSome
  | .rd, .ap => match j.readsAt with
    | some (some _) => true
    | _ => false
  | .rd, .cw => loadIn j k
  | .cw, .st => resvIn j k
  | _, _ => false
def AOp.isPc : AOp → Bool
  | .ex (.pc _) _ => true
  | _ => false
def okPc (j k : AOp) : Bool := k.isPc && decide (j.cls ≠ .no)
def compat (j k : GOp) : Bool :=
  (okCls j.op k.op || okPc j.op k.op) && apartSlot j.dst k.uses && apartSlot k.dst j.uses && apartSlot j.dst k.dst.toList
def needs (j k : GOp) : Option (AX × AX) := match j.op.readsAt, k.op.storesAt with
  | some (some x), some y => some (x, y)
  | _, _ => match j.op.storesAt, k.op.readsOf with
    | some y, some x => some (x, y)
    | _, _ => none
theorem readsOf_st {o : AOp} {x : AX} (h : o.readsOf = some x) : o.storesAt = none := by
  cases o <;> simp [AOp.readsOf] at h <;> rfl
theorem apartSlot_upd {e : Env} {d : Option Nat} {l : List Nat} {v : AV} (h : apartSlot d l = true) : ∀ t ∈ l, upd e d v t = e t := by
  intro t ht
  cases d with
  | none => rfl
  | some d =>
    simp only [apartSlot, Bool.not_eq_true', List.contains_eq_mem, decide_eq_false_iff_not] at h
    simp only [upd]
    rw [if_neg (by rintro rfl; exact h ht)]
theorem upd_comm {e : Env} {j k : Option Nat} {v u : AV} (h : apartSlot j k.toList = true) : upd (upd e j v) k u = upd (upd e k u) j v := by
  funext t
  cases j with
  | none => rfl
  | some j =>
    cases k with
    | none => rfl
    | some k =>
      simp [apartSlot] at h
      simp only [upd]
      by_cases h1 : t = k
      · subst h1; simp [Ne.symm h]
      · simp [h1]
theorem okCls_no {j k : AOp} (h : okCls j k = true) : j.cls ≠ .no ∧ k.cls ≠ .no := by
  unfold okCls at h
  split at h <;> simp_all
theorem partOf_two {el : El} {x : AV} {off : Nat} {ag : Bool} {n : Nat} {K K' : AV → Prop} (h1 : partOf el x off ag n K) (h2 : partOf el x off ag n K') : ∃ v, K v ∧ K' v := by
  unfold partOf at h1 h2
  by_cases h : off = 0 ∧ n = el.sz ∧ ag = el.ag
  · rw [if_pos h] at h1 h2; exact ⟨_, h1, h2⟩
  · rw [if_neg h] at h1 h2
    obtain ⟨_, h1⟩ := h1
    obtain ⟨_, h2⟩ := h2
    cases x <;> first | exact h1.elim | exact ⟨_, h1.1, h2.1⟩
theorem loadA_two {σ : Store} {ag : Bool} {n : Nat} {p : AV} {K K' : AV → Prop} (h1 : loadA σ ag n p K) (h2 : loadA σ ag n p K') : ∃ v, K v ∧ K' v := by
  unfold loadA at h1 h2
  cases p <;> (try exact h1.elim)
  case ref l off =>
    dsimp only at h1 h2
    split at h1
    · rename_i h; rw [h] at h2; exact ⟨_, h1.2.2, h2.2.2⟩
    · exact h1.elim
  case eref el x off => exact partOf_two h1 h2
  case vref el l m i off =>
    dsimp only at h1 h2
    split at h1
    · rename_i h; rw [h] at h2; exact partOf_two h1.2.2.2 h2.2.2.2
    · exact h1.elim
theorem keepsA_ld {az : List AV} {σ σ2 : Store} {e : Env} {ag : Bool} {n t : Nat} (hn : n ≠ 0) : ∀ (lds : List (Bool × Nat)) (xs : List AX), hasLd ag n t lds xs = true → keepsA az σ σ2 lds (xs.map (AX.ev e)) → e t = .nilp ∨ ∃ v, loadA σ ag n (e t) (fun u => u = v) ∧ loadA σ2 ag n (e t) (fun u => u = v)
  | [], xs, h, _ => by cases xs <;> simp [hasLd] at h
  | (ag', n') :: r, [], h, _ => by simp [hasLd] at h
  | (ag', n') :: r, x :: xs, h, hk => by
    obtain ⟨h1, h2⟩ := hk
    cases x with
    | c a => exact keepsA_ld hn r xs (by simpa [hasLd] using h) h2
    | t t' =>
      simp only [hasLd, Bool.or_eq_true, Bool.and_eq_true, beq_iff_eq] at h
      rcases h with ⟨⟨rfl, rfl⟩, rfl⟩ | h
      · rw [if_neg hn] at h1; exact h1
      · exact keepsA_ld hn r xs h h2
theorem keepsA_rv {az : List AV} {σ σ2 : Store} {e : Env} {t : Nat} : ∀ (lds : List (Bool × Nat)) (xs : List AX), hasLd true 0 t lds xs = true → keepsA az σ σ2 lds (xs.map (AX.ev e)) → e t = .nilp ∨ resvA az σ σ2 (e t)
  | [], xs, h, _ => by cases xs <;> simp [hasLd] at h
  | (ag', n') :: r, [], h, _ => by simp [hasLd] at h
  | (ag', n') :: r, x :: xs, h, hk => by
    obtain ⟨h1, h2⟩ := hk
    cases x with
    | c a => exact keepsA_rv r xs (by simpa [hasLd] using h) h2
    | t t' =>
      simp only [hasLd, Bool.or_eq_true, Bool.and_eq_true, beq_iff_eq] at h
      rcases h with ⟨⟨rfl, rfl⟩, rfl⟩ | h
      · rw [if_pos rfl] at h1; exact h1
      · exact keepsA_rv r xs h h2
theorem D_cw {j k : AOp} {e : Env} {σ σ2 : Store} {vj vk : AV} (h : loadIn j k = true) (dj : j.D P e σ vj σ) (dk : k.D P e σ vk σ2) : j.D P e σ2 vj σ2 := by
  unfold loadIn at h
  split at h
  · rename_i ag n t f k lds az
    simp only [Bool.and_eq_true, bne_iff_ne, ne_eq] at h
    obtain ⟨hn, h⟩ := h
    obtain ⟨hj, _⟩ := (show (∀ τ, (AOp.load ag n (.t t)).run P e (σ ++ τ) (Is vj (σ ++ τ)) No) ∧ σ = σ from dj)
    replace dk : (XOp.cw f k lds).run P (az.map (AX.ev e)) σ (Is vk σ2) No := dk
    obtain ⟨s2, hk, rfl⟩ : ∃ s2, keepsA ((az.map (AX.ev e)).take k) σ s2 lds ((az.map (AX.ev e)).drop k) ∧ s2 = σ2 := by
      cases az with
      | nil => exact dk.elim
      | cons x xs => obtain ⟨r, s2, _, hk, _, e2⟩ := dk; exact ⟨s2, hk, e2⟩
    rw [← List.map_drop] at hk
    have h3 : loadA σ ag n (e t) (fun u => u = vj) := by
      have : loadA (σ ++ []) ag n (e t) (fun u => Is vj (σ ++ []) u (σ ++ [])) := hj []
      rw [List.append_nil] at this
      exact loadA_mono (fun v h => h.1) this
    obtain ⟨v, h1, h2⟩ := (keepsA_ld hn _ _ h hk).resolve_left (fun e0 => by rw [e0] at h3; exact h3)
    obtain ⟨u, rfl, rfl⟩ := loadA_two h1 h3
    obtain ⟨u', h4, rfl⟩ := loadA_ex h2
    exact (show (∀ τ, (AOp.load ag n (.t t)).run P e (s2 ++ τ) (Is u' (s2 ++ τ)) No) ∧ s2 = s2 from
      ⟨fun τ => (show loadA (s2 ++ τ) ag n (e t) (fun u => Is u' (s2 ++ τ) u (s2 ++ τ)) from loadA_mono (fun v h => ⟨h, rfl⟩) (h4 τ)), rfl⟩)
  · cases h
theorem loadA_resv {σ : Store} {ag : Bool} {n m : Nat} {p : AV} {K : AV → Prop} (hm : σ[m]? = some .resv) (h : loadA σ ag n p K) : p.obj ≠ some m := by
  intro e
  unfold loadA at h
  split at h
  · rename_i l off
    obtain rfl : l = m := Option.some.inj e
    rw [hm] at h; exact h.elim
  · cases e
  · rename_i el l k i off
    obtain rfl : l = m := Option.some.inj e
    rw [hm] at h; exact h.elim
  · exact h.elim
theorem noAll_set {k m : Nat} {σ : Store} {ob : AObj} (h : noAll k σ = true) (ho : ob.noL k = true) : noAll k (σ.set m ob) = true := by
  unfold noAll at *
  rw [List.all_eq_true] at *
  intro o hx
  rcases List.mem_or_eq_of_mem_set hx with h1 | rfl
  · exact h o h1
  · exact ho
theorem keepsA_set {az : List AV} {σ σ2 : Store} {m : Nat} {T : Option TypeId} {cs : List AV} (h1 : σ[m]? = some .resv) (h2 : σ2[m]? = some .resv) (hc : cs.all AV.cst = true) : ∀ (lds : List (Bool × Nat)) (ps : List AV), keepsA az σ σ2 lds ps → keepsA az (σ.set m (.cellsT T cs)) (σ2.set m (.cellsT T cs)) lds ps
  | [], _, _ => trivial
  | (ag, n) :: r, p :: ps, ⟨h3, h4⟩ => by
    refine ⟨?_, keepsA_set h1 h2 hc r ps h4⟩
    rcases h3 with h3 | h3
    · exact .inl h3
    refine .inr ?_
    by_cases hn : n = 0
    · rw [if_pos hn] at h3 ⊢
      unfold resvA at h3 ⊢
      split at h3
      · rename_i k
        intro hk
        by_cases e : m = k
        · subst e
          rw [List.getElem?_set_self (List.getElem?_eq_some_iff.1 h2).1] at hk
          cases hk
        · rw [List.getElem?_set_ne e] at hk ⊢
          obtain ⟨a, b, c⟩ := h3 hk
          exact ⟨a, b, noAll_set c (cst_noLs hc)⟩
      · exact h3.elim
    · rw [if_neg hn] at h3 ⊢
      obtain ⟨v, a, b⟩ := h3
      exact ⟨v, loadA_set (loadA_resv h1 a) a, loadA_set (loadA_resv h2 b) b⟩
  | _ :: _, [], h => h.elim
theorem D_resv {j k : AOp} {e : Env} {σ σ2 σ3 : Store} {vj vk : AV} (h : resvIn j k = true) (dj : j.D P e σ vj σ2) (dk : k.D P e σ2 vk σ3) : ∃ s, k.D P e σ vk s ∧ j.D P e s vj σ3 := by
  unfold resvIn at h
  split at h
  · rename_i f c lds az kk T cs
    simp only [Bool.and_eq_true] at h
    obtain ⟨h, hc⟩ := h
    replace dj : (XOp.cw f c lds).run P (az.map (AX.ev e)) σ (Is vj σ2) No := dj
    have dk : AOp.run P (.allocAt kk T cs) e σ2 (Is vk σ3) No := dk
    cases az with
    | nil => exact dj.elim
    | cons x xs =>
      obtain ⟨r, s2, hcall, hk, rfl, rfl⟩ := dj
      simp only [AOp.run] at dk
      split at dk
      · rename_i m hm
        split at dk
        · rename_i hm2
          obtain ⟨rfl, rfl⟩ := dk
          have hr := keepsA_rv (e := e) lds ((x :: xs).drop c) h (by rw [List.map_drop]; exact hk)
          rw [hm] at hr
          obtain ⟨r1, r2, r3⟩ := hr.resolve_left (fun e0 => by cases e0) hm2
          refine ⟨σ.set m (.cellsT T cs), ?_, ?_⟩
          · show AOp.run P (.allocAt kk T cs) e σ (Is _ _) No
            simp only [AOp.run, hm, r1]
            exact ⟨rfl, rfl⟩
          · show (XOp.cw f c lds).run P ((x :: xs).map (AX.ev e)) (σ.set m (.cellsT T cs)) (Is _ _) No
            exact ⟨r, _, CallA.resv r1 hm2 r2 r3 hc hcall, keepsA_set r1 hm2 hc _ _ hk, rfl, rfl⟩
        · exact dk.elim
      · exact dk.elim
  · cases h
def GOp.pcR (P : Program) (g : GOp) (n : FuncId) (az : List AX) (e : Env) : Option Out → Prop
  | none => match g.guard with
    | none => False
    | some (k, b) => match e k with
      | .bool t => t = !b
      | .tup [] => True
      | _ => False
  | some o => (∀ s, CallA P n (az.map (AX.ev e)) s fun o' s' => o' = o ∧ s' = s) ∧ match g.guard with
    | none => True
    | some (k, b) => e k = .bool b
def pcE (P : Program) (Q : AQ) (d : Option Nat) (K : Env → Store → Prop) (e : Env) (σ : Store) : Option Out → Prop
  | none => K (upd e d (.tup [])) σ
  | some (.ret r) => K (upd e d r) σ
  | some (.panic v) => ∀ s, Q (.panic v) e s
theorem pc_iff {g : GOp} {n : FuncId} {az : List AX} {K : Env → Store → Prop} {e : Env} {σ : Store} (hg : g.op = .ex (.pc n) az) : runOne P Q g K e σ ↔ ∃ o, g.pcR P n az e o ∧ pcE P Q g.dst K e σ o := by
  have key : ∀ {K1 : AV → Store → Prop} {K2 : AV → Store → Prop}, g.op.run P e σ K1 K2 ↔ ∃ o, (∀ s, CallA P n (az.map (AX.ev e)) s fun o' s' => o' = o ∧ s' = s) ∧ pcK (fun r => K1 r σ) (fun v => ∀ s, K2 v s) o := by
    intro K1 K2; rw [hg]; exact Iff.rfl
  unfold runOne GOp.pcR
  cases hgd : g.guard with
  | none =>
    simp only
    rw [key]
    constructor
    · rintro ⟨o, h1, h2⟩
      exact ⟨some o, ⟨h1, trivial⟩, by cases o <;> exact h2⟩
    · rintro ⟨o, h1, h2⟩
      cases o with
      | none => exact h1.elim
      | some o => exact ⟨o, h1.1, by cases o <;> exact h2⟩
  | some kb =>
    obtain ⟨k, b⟩ := kb
    simp only
    split
    · rename_i t ht
      constructor
      · rintro ⟨h1, h2⟩
        by_cases htb : t = b
        · have h1 := h1 htb
          subst htb
          rw [upd_same ht, key] at h1
          obtain ⟨o, h3, h4⟩ := h1
          exact ⟨some o, ⟨h3, by rw [ht]⟩, by cases o <;> exact h4⟩
        · have hn : t = !b := by cases t <;> cases b <;> simp_all
          have h2 := h2 hn
          rw [upd_same (by rw [ht, hn])] at h2
          exact ⟨none, by rw [ht]; exact hn, h2⟩
      · rintro ⟨o, h1, h2⟩
        cases o with
        | none =>
          rw [ht] at h1
          have h1 : t = !b := h1
          refine ⟨fun h => absurd h (by rw [h1]; cases b <;> decide), fun _ => ?_⟩
          rw [upd_same (by rw [ht, h1])]
          exact h2
        | some o =>
          obtain ⟨h3, h4⟩ := h1
          have h4 : e k = .bool b := h4
          have htb : t = b := AV.bool.inj (ht.symm.trans h4)
          refine ⟨fun _ => ?_, fun h => absurd h (by rw [htb]; cases b <;> decide)⟩
          rw [upd_same h4, key]
          exact ⟨o, h3, by cases o <;> exact h2⟩
    · rename_i ht
      constructor
      · intro h; exact ⟨none, by rw [ht]; trivial, h⟩
      · rintro ⟨o, h1, h2⟩
        cases o with
        | none => exact h2
        | some o => exact absurd (ht.symm.trans h1.2) (by simp)
    · rename_i h3 h4
      constructor
      · exact fun h => h.elim
      · rintro ⟨o, h1, h2⟩
        cases o with
        | none =>
          exact False.elim h1
        | some o => exact (h3 _ h1.2).elim
theorem swap_pc {j k : GOp} {K : Env → Store → Prop} {e : Env} {σ : Store} (hcls : okPc j.op k.op = true) (s1 : apartSlot j.dst k.uses = true) (s2 : apartSlot k.dst j.uses = true) (s3 : apartSlot j.dst k.dst.toList = true)
    (hQ : ∀ v e e' σ, Q (.panic v) e σ → Q (.panic v) e' σ) (hh : runOne P Q j (runOne P Q k K) e σ) : runOne P Q k (runOne P Q j K) e σ := by
  simp only [okPc, Bool.and_eq_true, decide_eq_true_eq] at hcls
  obtain ⟨hk, hj⟩ := hcls
  obtain ⟨n, az, hg⟩ : ∃ n az, k.op = .ex (.pc n) az := by
    revert hk
    cases k.op <;> simp [AOp.isPc]
    rename_i o xs
    cases o <;> simp [AOp.isPc]
  obtain ⟨vj, σj, dj, hh⟩ := (one_iff hj).1 hh
  obtain ⟨o, h1, h2⟩ := (pc_iff hg).1 hh
  have hu : ∀ t ∈ k.uses, upd e j.dst vj t = e t := apartSlot_upd s1
  have hz : az.map (AX.ev (upd e j.dst vj)) = az.map (AX.ev e) := by
    exact AX.evL_congr fun t ht => hu t (by simp only [GOp.uses, hg]; exact List.mem_append_left _ ht)
  have hR : k.pcR P n az e o := by
    have hgk : ∀ m b, k.guard = some (m, b) → upd e j.dst vj m = e m := fun m b h => hu m (by simp [GOp.uses, h])
    unfold GOp.pcR at h1 ⊢
    cases o with
    | none =>
      cases hgd : k.guard with
      | none => rw [hgd] at h1; exact h1.elim
      | some kb => obtain ⟨m, b⟩ := kb; rw [hgd] at h1; simp only [hgk m b hgd] at h1; exact h1
    | some o =>
      rw [hz] at h1
      refine ⟨h1.1, ?_⟩
      cases hgd : k.guard with
      | none => trivial
      | some kb => obtain ⟨m, b⟩ := kb; have := h1.2; rw [hgd] at this; simp only [hgk m b hgd] at this; exact this
  have tr : ∀ v, j.D P (upd e k.dst v) σ vj σj := fun v => GD_congr (fun t ht => (apartSlot_upd s2 t ht).symm) dj
  refine (pc_iff hg).2 ⟨o, hR, ?_⟩
  cases o with
  | none => exact (one_iff hj).2 ⟨vj, σj, tr _, by rw [← upd_comm s3]; exact h2⟩
  | some o =>
    cases o with
    | ret r => exact (one_iff hj).2 ⟨vj, σj, tr _, by rw [← upd_comm s3]; exact h2⟩
    | panic v => exact fun s => hQ _ _ _ _ (h2 s)
theorem swap {j k : GOp} {K : Env → Store → Prop} {e : Env} {σ : Store} (h : compat j k = true) (hQ : k.op.isPc = true → ∀ v e e' σ, Q (.panic v) e σ → Q (.panic v) e' σ) (hap : ∀ x y, needs j k = some (x, y) → (apartSlot j.dst (x.uses ++ y.uses) = true ∧ apartSlot k.dst (x.uses ++ y.uses) = true) ∧ ∀ e σ, K e σ → apartA (x.ev e) (y.ev e))
    (hh : runOne P Q j (runOne P Q k K) e σ) : runOne P Q k (runOne P Q j K) e σ := by
  simp only [compat, Bool.and_eq_true] at h
  obtain ⟨⟨⟨hcls, s1⟩, s2⟩, s3⟩ := h
  rcases Bool.or_eq_true _ _ ▸ hcls with hcls | hcls
  case inr => exact swap_pc hcls s1 s2 s3 (hQ (by simp only [okPc, Bool.and_eq_true] at hcls; exact hcls.1)) hh
  obtain ⟨hj, hk⟩ := okCls_no hcls
  obtain ⟨vj, σj, dj, hh⟩ := (one_iff hj).1 hh
  obtain ⟨vk, σk, dk, hK⟩ := (one_iff hk).1 hh
  have dk0 : k.D P e σj vk σk := GD_congr (apartSlot_upd s1) dk
  have tr : ∀ {s s'}, j.D P e s vj s' → j.D P (upd e k.dst vk) s vj s' := fun h => GD_congr (fun t ht => (apartSlot_upd s2 t ht).symm) h
  have hK0 := hK
  rw [upd_comm s3] at hK
  have kpu : k.op.cls = .pu → runOne P Q k (runOne P Q j K) e σ := fun hc => by
    have := GD_same (.inl hc) dk0
    subst this
    exact (one_iff hk).2 ⟨vk, σ, GD_pure hc dk0 σ, (one_iff hj).2 ⟨vj, _, tr dj, hK⟩⟩
  have jrd : σj = σ → j.D P e σk vj σk → runOne P Q k (runOne P Q j K) e σ := fun h1 h2 => by
    subst h1
    exact (one_iff hk).2 ⟨vk, σk, dk0, (one_iff hj).2 ⟨vj, _, tr h2, hK⟩⟩
  unfold okCls at hcls
  split at hcls <;> (try (cases hcls; done))
  · rename_i hc _
    exact jrd (GD_same (.inl hc) dj) (GD_pure hc dj _)
  · rename_i hc _ _
    exact kpu hc
  · rename_i hc hc2
    have h1 := GD_same (.inr hc) dj
    have h2 := GD_same (.inr hc2) dk0
    subst h1; subst h2
    exact jrd rfl dj
  · rename_i hc hc2
    have h1 := GD_same (.inr hc) dj
    subst h1
    obtain ⟨τ, rfl⟩ := GD_al hc2 dk0
    exact jrd rfl (GD_push (.inr hc) dj τ)
  · rename_i hc hc2
    have h1 := GD_same (.inr hc) dj
    subst h1
    rcases GD_st hc2 dk0 with rfl | ⟨y, l, ob, ob', hy, hl, hlike, hobj, rfl⟩
    · exact jrd rfl dj
    · obtain ⟨rx, hrx⟩ := Option.isSome_iff_exists.1 hcls
      refine jrd rfl (GD_set hrx hl hlike (fun x hx => ?_) dj)
      subst hx
      have hn : needs j k = some (x, y) := by simp [needs, hrx, hy]
      obtain ⟨⟨a1, a2⟩, a3⟩ := hap x y hn
      have ha := a3 _ _ hK0
      have ex : ∀ t ∈ x.uses ++ y.uses, upd (upd e j.dst vj) k.dst vk t = e t := fun t ht => by
        rw [apartSlot_upd a2 t ht, apartSlot_upd a1 t ht]
      rw [AX.ev_congr (x := x) (fun t ht => ex t (List.mem_append_left _ ht)), AX.ev_congr (x := y) (fun t ht => ex t (List.mem_append_right _ ht))] at ha
      exact fun h1 => ha l h1 hobj
  ·
    split at hcls
    · rename_i a b ra rb
      rcases GD_cases dj with ⟨dj1, dj2⟩ | ⟨rfl, rfl, hj2⟩
      · rcases GD_cases dk0 with ⟨dk1, dk2⟩ | ⟨rfl, rfl, hk2⟩
        · obtain ⟨n, o1, n1, n2, n3, rfl, n4⟩ := D_res ra dj1
          obtain ⟨m, o2, m1, m2, m3, rfl, m4⟩ := D_res rb dk1
          have hnm : n ≠ m := by
            rintro rfl
            rw [List.getElem?_set_self (List.getElem?_eq_some_iff.1 n2).1] at m2
            exact n3 (Option.some.inj m2)
          rw [List.getElem?_set_ne hnm] at m2
          refine (one_iff hk).2 ⟨_, _, dk2 _ _ _ (m4 σ m2), (one_iff hj).2 ⟨_, _, tr (dj2 _ _ _ (n4 _ (by rw [List.getElem?_set_ne (Ne.symm hnm)]; exact n2))), ?_⟩⟩
          rw [List.set_comm _ _ (Ne.symm hnm)]
          exact hK
        · exact (one_iff hk).2 ⟨_, _, hk2 σ, (one_iff hj).2 ⟨_, _, tr dj, hK⟩⟩
      · exact (one_iff hk).2 ⟨_, _, dk0, (one_iff hj).2 ⟨_, _, tr (hj2 _), hK⟩⟩
    · cases hcls
  ·
    rename_i hc _
    simp only [Bool.and_eq_true, Option.isSome_iff_exists] at hcls
    obtain ⟨⟨y, ry⟩, x, rx⟩ := hcls
    have h2 := GD_same (.inr (readsOf_rd rx)) dk0
    subst h2
    rcases GD_cases dj with ⟨dj1, _⟩ | ⟨rfl, rfl, _⟩
    · obtain ⟨y', l, ob, ob', hy, n2, _, hobj', rfl⟩ := D_st hc dj1
      obtain rfl : y = y' := by rw [ry] at hy; exact Option.some.inj hy
      have hn : needs j k = some (x, y) := by
        unfold needs
        rw [readsOf_st rx, ry, rx]
        cases j.op.readsAt with
        | none => rfl
        | some o => cases o <;> rfl
      obtain ⟨⟨a1, a2⟩, a3⟩ := hap x y hn
      have ha := a3 _ _ hK0
      have ex : ∀ t ∈ x.uses ++ y.uses, upd (upd e j.dst vj) k.dst vk t = e t := fun t ht => by
        rw [apartSlot_upd a2 t ht, apartSlot_upd a1 t ht]
      rw [AX.ev_congr (x := x) (fun t ht => ex t (List.mem_append_left _ ht)), AX.ev_congr (x := y) (fun t ht => ex t (List.mem_append_right _ ht))] at ha
      have hlt := (List.getElem?_eq_some_iff.1 n2).1
      have hobj : (x.ev e).obj ≠ some l := fun h => ha l h hobj'
      have back : (σ.set l ob').set l ob = σ := by
        rw [List.set_set]
        apply List.ext_getElem?
        intro i
        by_cases hi : i = l
        · subst hi; rw [List.getElem?_set_self hlt]; exact n2.symm
        · rw [List.getElem?_set_ne (Ne.symm hi)]
      have dk' : k.D P e σ vk σ := by
        rcases GD_cases dk0 with ⟨q1, q2⟩ | ⟨rfl, _, q⟩
        · have := D_other (ob := ob) rx (by simpa using hlt) hobj q1
          rw [back] at this
          exact q2 _ _ _ this
        · exact q σ
      exact (one_iff hk).2 ⟨vk, σ, dk', (one_iff hj).2 ⟨vj, _, tr dj, hK⟩⟩
    · exact (one_iff hk).2 ⟨vk, _, dk0, (one_iff hj).2 ⟨_, _, tr dj, hK⟩⟩
  ·
    rename_i hc hc2
    have h1 := GD_same (.inr hc) dj
    subst h1
    split at hcls
    · rename_i x hrx
      have hro : j.op.readsOf = some x := by
        revert hrx
        cases j.op <;> simp [AOp.readsAt, AOp.readsOf]
      rcases GD_cases dk0 with ⟨dk1, _⟩ | ⟨rfl, rfl, _⟩
      · obtain ⟨y, hy, ⟨τ, rfl⟩ | ⟨l, ob, hlt, hobj, rfl⟩⟩ := D_ap hc2 dk1
        · exact jrd rfl (GD_push (.inr hc) dj τ)
        · have hn : needs j k = some (x, y) := by simp [needs, hrx, hy]
          obtain ⟨⟨a1, a2⟩, a3⟩ := hap x y hn
          have ha := a3 _ _ hK0
          have ex : ∀ t ∈ x.uses ++ y.uses, upd (upd e j.dst vj) k.dst vk t = e t := fun t ht => by
            rw [apartSlot_upd a2 t ht, apartSlot_upd a1 t ht]
          rw [AX.ev_congr (x := x) (fun t ht => ex t (List.mem_append_left _ ht)), AX.ev_congr (x := y) (fun t ht => ex t (List.mem_append_right _ ht))] at ha
          refine jrd rfl ?_
          rcases GD_cases dj with ⟨q1, q2⟩ | ⟨rfl, _, q⟩
          · exact q2 _ _ _ (D_other hro hlt (fun h => ha l h hobj) q1)
          · exact q _
      · exact jrd rfl dj
    · cases hcls
  ·
    rename_i hc _
    have h1 := GD_same (.inr hc) dj
    subst h1
    rcases GD_cases dk0 with ⟨dk1, _⟩ | ⟨rfl, rfl, _⟩
    · rcases GD_cases dj with ⟨q1, q2⟩ | ⟨rfl, _, q⟩
      · exact jrd rfl (q2 _ _ _ (D_cw hcls q1 dk1))
      · exact jrd rfl (q _)
    · exact jrd rfl dj
  ·
    rcases GD_cases dj with ⟨dj1, dj2⟩ | ⟨rfl, rfl, hj2⟩
    · rcases GD_cases dk0 with ⟨dk1, dk2⟩ | ⟨rfl, rfl, hk2⟩
      · obtain ⟨s, q1, q2⟩ := D_resv hcls dj1 dk1
        exact (one_iff hk).2 ⟨_, _, dk2 _ _ _ q1, (one_iff hj).2 ⟨_, _, tr (dj2 _ _ _ q2), hK⟩⟩
      · exact (one_iff hk).2 ⟨_, _, hk2 σ, (one_iff hj).2 ⟨_, _, tr dj, hK⟩⟩
    · exact (one_iff hk).2 ⟨_, _, dk0, (one_iff hj).2 ⟨_, _, tr (hj2 _), hK⟩⟩
def cutX (D : List Nat) : AX → AX
  | .t t => if D.contains t then .c .nilp else .t t
  | .c a => .c a
def cutL (D : List Nat) : Nat → List AX → List AX
  | _, [] => []
  | 0, x :: xs => cutX D x :: cutL D 0 xs
  | n + 1, x :: xs => x :: cutL D n xs
def AOp.cut (D : List Nat) : AOp → AOp
  | .ex (.cw n c lds) az => .ex (.cw n c lds) (cutL D c az)
  | o => o
def GOp.cut (D : List Nat) (g : GOp) : GOp := { g with op := g.op.cut D }
theorem cutX_cut {D D' : List Nat} (h : ∀ t ∈ D', t ∈ D) (x : AX) : cutX D (cutX D' x) = cutX D x := by
  cases x with
  | c a => rfl
  | t t =>
    simp only [cutX]
    by_cases h1 : t ∈ D'
    · simp [h1, h t h1, cutX]
    · simp [h1, cutX]
theorem cutL_cut {D D' : List Nat} (h : ∀ t ∈ D', t ∈ D) : ∀ (az : List AX) (c : Nat), cutL D c (cutL D' c az) = cutL D c az
  | [], c => by cases c <;> rfl
  | x :: xs, 0 => by simp only [cutL]; rw [cutX_cut h, cutL_cut h xs 0]
  | x :: xs, n + 1 => by simp only [cutL]; rw [cutL_cut h xs n]
theorem cutL_take {D : List Nat} {e : Env} : ∀ (az : List AX) (c : Nat), ((cutL D c az).map (AX.ev e)).take c = (az.map (AX.ev e)).take c
  | [], c => by cases c <;> rfl
  | x :: xs, 0 => by simp
  | x :: xs, n + 1 => by simp only [cutL, List.map_cons, List.take_succ_cons]; rw [cutL_take xs n]
theorem cutL_keep0 {A : List AV} {σ σ2 : Store} {D : List Nat} {e : Env} : ∀ (lds : List (Bool × Nat)) (az : List AX), keepsA A σ σ2 lds (az.map (AX.ev e)) → keepsA A σ σ2 lds ((cutL D 0 az).map (AX.ev e))
  | [], az, _ => by cases az <;> trivial
  | (ag, n) :: r, [], h => h
  | (ag, n) :: r, x :: xs, ⟨h1, h2⟩ => by
    refine ⟨?_, cutL_keep0 r xs h2⟩
    cases x with
    | c a => exact h1
    | t t =>
      by_cases ht : D.contains t
      · simp only [cutX, if_pos ht]; exact .inl rfl
      · simp only [cutX, if_neg ht]; exact h1
theorem cutL_keep {A : List AV} {σ σ2 : Store} {D : List Nat} {e : Env} {lds : List (Bool × Nat)} : ∀ (az : List AX) (c : Nat), keepsA A σ σ2 lds ((az.map (AX.ev e)).drop c) → keepsA A σ σ2 lds (((cutL D c az).map (AX.ev e)).drop c)
  | [], c, h => by cases c <;> exact h
  | x :: xs, 0, h => cutL_keep0 lds (x :: xs) h
  | x :: xs, n + 1, h => cutL_keep xs n h
theorem run_cut {D : List Nat} {o : AOp} {e : Env} {σ : Store} {K Kp : AV → Store → Prop} (h : o.run P e σ K Kp) : (o.cut D).run P e σ K Kp := by
  unfold AOp.cut
  split
  · rename_i n c lds az
    cases az with
    | nil => cases c <;> exact h
    | cons x xs =>
      obtain ⟨r, s2, h1, h2, h3⟩ := (show (XOp.cw n c lds).run P ((x :: xs).map (AX.ev e)) σ K Kp from h)
      have h1 : CallA P n (((x :: xs).map (AX.ev e)).take c) σ _ := h1
      have h2 : keepsA (((x :: xs).map (AX.ev e)).take c) σ s2 lds (((x :: xs).map (AX.ev e)).drop c) := h2
      rw [← cutL_take (D := D)] at h1 h2
      have h2 := cutL_keep (D := D) _ _ h2
      obtain ⟨y, ys, hy⟩ : ∃ y ys, cutL D c (x :: xs) = y :: ys := by cases c <;> exact ⟨_, _, rfl⟩
      show (XOp.cw n c lds).run P ((cutL D c (x :: xs)).map (AX.ev e)) σ K Kp
      rw [hy] at h1 h2 ⊢
      exact ⟨r, s2, h1, h2, h3⟩
  · exact h
theorem one_cut {D : List Nat} {g : GOp} {K : Env → Store → Prop} {e : Env} {σ : Store} (h : runOne P Q g K e σ) : runOne P Q (g.cut D) K e σ := by
  unfold runOne at *
  show (match g.guard with
    | none => (g.op.cut D).run P e σ (fun v σ' => K (upd e g.dst v) σ') (fun v σ' => Q (.panic v) e σ')
    | some (k, b) => match e k with
      | .bool t => (t = b → (g.op.cut D).run P (upd e (some k) (.bool b)) σ (fun v σ' => K (upd (upd e (some k) (.bool b)) g.dst v) σ') (fun v σ' => Q (.panic v) (upd e (some k) (.bool b)) σ')) ∧
          (t = !b → K (upd (upd e (some k) (.bool (!b))) g.dst (.tup [])) σ)
      | .tup [] => K (upd e g.dst (.tup [])) σ
      | _ => False)
  split
  · rename_i hg
    simp only [hg] at h
    exact run_cut h
  · rename_i k b hg
    simp only [hg] at h
    split
    · rename_i t ht
      simp only [ht] at h
      exact ⟨fun hb => run_cut (h.1 hb), h.2⟩
    · rename_i ht
      simp only [ht] at h
      exact h
    · rename_i h1 h2
      split at h
      · rename_i t ht; exact (h1 t ht).elim
      · rename_i ht; exact (h2 ht).elim
      · exact h
theorem cutO_cut {D D' : List Nat} (h : ∀ t ∈ D', t ∈ D) (o : AOp) : (o.cut D').cut D = o.cut D := by
  cases o <;> first | rfl | skip
  rename_i x xs
  cases x <;> first | rfl | skip
  rename_i n c lds
  show AOp.ex (.cw n c lds) (cutL D c (cutL D' c xs)) = AOp.ex (.cw n c lds) (cutL D c xs)
  rw [cutL_cut h]
theorem cut_cut {D D' : List Nat} (h : ∀ t ∈ D', t ∈ D) (g : GOp) : (g.cut D').cut D = g.cut D := by
  obtain ⟨o, d, gd⟩ := g
  simp only [GOp.cut, cutO_cut h]
theorem one_le {D D' : List Nat} {g : GOp} {K : Env → Store → Prop} {e : Env} {σ : Store} (hD : ∀ t ∈ D', t ∈ D) (h : runOne P Q (g.cut D') K e σ) : runOne P Q (g.cut D) K e σ := by
  rw [← cut_cut hD]; exact one_cut h
theorem needs_cut (j k : GOp) (D : List Nat) : needs j (k.cut D) = needs j k := by
  obtain ⟨o, d, gd⟩ := k
  unfold needs
  cases o <;> first | rfl | skip
  rename_i x xs
  cases x <;> rfl
theorem pc_cut (k : GOp) (D : List Nat) : (k.cut D).op.isPc = k.op.isPc := by
  obtain ⟨o, d, gd⟩ := k
  cases o <;> first | rfl | skip
  rename_i x xs
  cases x <;> rfl
def decorO (l : List (Nat × El)) : AOp → AOp
  | .ex (.cw n c []) (x :: xs) => if (x :: xs).length = c then .ex (.cw n c (l.map fun p => (p.2.ag, p.2.sz))) ((x :: xs) ++ l.map fun p => .t p.1) else .ex (.cw n c []) (x :: xs)
  | o => o
def decor (h : Hints) (g : GOp) : GOp := { g with op := decorO (cwOf h g.dst) g.op }
def plainO : AOp → Bool
  | .ex (.cw _ _ (_ :: _)) _ => false
  | _ => true
theorem bare_run {n c : Nat} {lds : List (Bool × Nat)} {x : AX} {xs zs : List AX} {D : List Nat} {e : Env} {σ : Store} {K Kp : AV → Store → Prop} (hz : ∀ e' : Env, (zs.map (AX.ev e')).take c = ((x :: xs).map (AX.ev e')).take c) (hne : zs ≠ []) (h : ((AOp.ex (.cw n c lds) zs).cut D).run P e σ K Kp) : (AOp.ex (.cw n c []) (x :: xs)).run P e σ K Kp := by
  have h : (XOp.cw n c lds).run P ((cutL D c zs).map (AX.ev e)) σ K Kp := h
  obtain ⟨y, ys, hy⟩ : ∃ y ys, cutL D c zs = y :: ys := by
    cases zs with
    | nil => exact absurd rfl hne
    | cons z zs => cases c <;> exact ⟨_, _, rfl⟩
  have ht := cutL_take (D := D) (e := e) zs c
  rw [hy, hz] at ht
  rw [hy] at h
  obtain ⟨r, s2, h1, _, h3⟩ := h
  have h1 : CallA P n (((y :: ys).map (AX.ev e)).take c) σ _ := h1
  rw [ht] at h1
  exact ⟨r, s2, h1, trivial, h3⟩
theorem decor_run {l : List (Nat × El)} {o : AOp} {D : List Nat} {e : Env} {σ : Store} {K Kp : AV → Store → Prop} (hp : plainO o = true) (h : ((decorO l o).cut D).run P e σ K Kp) : o.run P e σ K Kp := by
  unfold decorO at h
  split at h
  · split at h
    · rename_i n c x xs hc
      refine bare_run (fun e' => ?_) (by simp) h
      rw [List.map_append, List.take_append_of_le_length (by simp only [List.length_map]; omega)]
    · exact bare_run (fun _ => rfl) (by simp) h
  · rename_i hno
    unfold AOp.cut at h
    split at h
    · rename_i n c lds az
      cases lds with
      | cons => cases hp
      | nil =>
        cases az with
        | nil => cases c <;> exact h
        | cons x xs => exact absurd rfl (hno _ _ _ _)
    · exact h
theorem one_decor {h : Hints} {D : List Nat} {g : GOp} {K : Env → Store → Prop} {e : Env} {σ : Store} (hp : plainO g.op = true) (hh : runOne P Q ((decor h g).cut D) K e σ) : runOne P Q g K e σ := by
  have hh : (match g.guard with
    | none => ((decorO (cwOf h g.dst) g.op).cut D).run P e σ (fun v σ' => K (upd e g.dst v) σ') (fun v σ' => Q (.panic v) e σ')
    | some (k, b) => match e k with
      | .bool t => (t = b → ((decorO (cwOf h g.dst) g.op).cut D).run P (upd e (some k) (.bool b)) σ (fun v σ' => K (upd (upd e (some k) (.bool b)) g.dst v) σ') (fun v σ' => Q (.panic v) (upd e (some k) (.bool b)) σ')) ∧
          (t = !b → K (upd (upd e (some k) (.bool (!b))) g.dst (.tup [])) σ)
      | .tup [] => K (upd e g.dst (.tup [])) σ
      | _ => False) := hh
  unfold runOne
  split
  · rename_i hg
    simp only [hg] at hh
    exact decor_run hp hh
  · rename_i k b hg
    simp only [hg] at hh
    split
    · rename_i t ht
      simp only [ht] at hh
      exact ⟨fun hb => decor_run hp (hh.1 hb), hh.2⟩
    · rename_i ht
      simp only [ht] at hh
      exact hh
    · rename_i h1 h2
      split at hh
      · rename_i t ht; exact (h1 t ht).elim
      · rename_i ht; exact (h2 ht).elim
      · exact hh
variable (P Q) in
def anyA (ops : Nat → GOp) (aft : Nat → List Nat) : Nat → List Nat → Env → Store → Prop
  | 0, l, e, σ => l = [] ∧ Q .normal e σ
  | n + 1, l, e, σ => ((∀ i ∈ l, ∃ j ∈ aft i, j ∈ l) → Q .normal e σ) ∧ ∀ i ∈ l, (∀ j ∈ aft i, j ∉ l) → runOne P Q (ops i) (anyA ops aft n (l.erase i)) e σ
def XOp.goes : XOp → Bool
  | .inv _ | .pc _ | .nilU _ => false
  | _ => true
def AOp.goes : AOp → Bool
  | .app .. => true
  | .ex o _ => o.goes
  | o => o.cls != .no
theorem goes_run {o : AOp} {e : Env} {σ : Store} {K Kp : AV → Store → Prop} (h : o.goes = true) (hh : o.run P e σ K Kp) : ∃ v σ', K v σ' := by
  by_cases hn : o.cls ≠ .no
  · obtain ⟨v, σ', _, h⟩ := (run_iff hn).1 hh
    exact ⟨v, σ', h⟩
  · by_cases hx : ∃ o' xs, o = .ex o' xs
    · obtain ⟨o', xs, rfl⟩ := hx
      obtain ⟨v, σ', _, h1⟩ := XOp.det (by replace h : o'.goes = true := h; cases o' <;> first | (intro e; cases e; done) | (cases h; done)) (show o'.run P (xs.map (AX.ev e)) σ K Kp from hh)
      exact ⟨v, σ', h1⟩
    cases o <;> (try (exact absurd ⟨_, _, rfl⟩ hx)) <;> simp [AOp.goes] at h <;> (try (exact absurd h hn))
    rename_i T el x1 y1
    simp only [AOp.run, appA] at hh
    generalize AX.ev e _ = y at hh
    have key : ∀ (ys : List AV) (x : AV), (match x with
        | .nils => if ys.length = 0 then K .nils σ else roomOk ys.length el ∧ K (.own el σ.length ys.length 0 ys.length) (σ ++ [.vecT T el ys])
        | .lst true el' xs => el' = el ∧ if ys.length = 0 then K (.lst true el xs) σ else roomOk (xs.length + ys.length) el ∧ K (.own el σ.length (xs.length + ys.length) 0 (xs.length + ys.length)) (σ ++ [.vecT T el (xs ++ ys)])
        | .own el' l m lo n => el' = el ∧ match σ[l]? with
          | some (.vecT T' el'' xs) => (T' = none ∨ T' = T) ∧ el'' = el ∧ m = xs.length ∧ lo = 0 ∧ n = xs.length ∧ roomOk (xs.length + ys.length) el ∧ K (.own el l (xs.length + ys.length) 0 (xs.length + ys.length)) (σ.set l (.vecT T' el (xs ++ ys)))
          | _ => False
        | _ => False) → ∃ v σ', K v σ' := fun ys x hx => by
      split at hx
      · split at hx
        · exact ⟨_, _, hx⟩
        · exact ⟨_, _, hx.2⟩
      · replace hx := hx.2
        split at hx
        · exact ⟨_, _, hx⟩
        · exact ⟨_, _, hx.2⟩
      · replace hx := hx.2
        split at hx
        · exact ⟨_, _, hx.2.2.2.2.2.2⟩
        · exact hx.elim
      · exact hx.elim
    unfold listA at hh
    split at hh
    · exact key _ _ hh.2
    · exact key _ _ hh.2.2
    · replace hh := hh.2
      split at hh
      · exact key _ _ hh.2.2.2
      · exact hh.elim
    · exact key _ _ hh.2.2
    · obtain ⟨u, _, h2⟩ := loadA_ex hh.2.2
      exact key _ _ h2.2
    · exact hh.elim
theorem one_goes {g : GOp} {K : Env → Store → Prop} {e : Env} {σ : Store} (hc : g.op.goes = true) (h : runOne P Q g K e σ) : ∃ v σ', K (upd e g.dst v) σ' := by
  unfold runOne at h
  split at h
  · exact goes_run hc h
  · rename_i k b hg
    split at h
    · rename_i t ht
      by_cases htb : t = b
      · obtain ⟨v, s, h⟩ := goes_run hc (h.1 htb)
        rw [upd_same (by rw [ht, htb])] at h
        exact ⟨v, s, h⟩
      · have hn : t = !b := by cases t <;> cases b <;> simp_all
        have h := h.2 hn
        rw [upd_same (by rw [ht, hn])] at h
        exact ⟨_, _, h⟩
    · exact ⟨_, _, h⟩
    · exact h.elim
theorem fin_of {C : Env → Prop} {us : List Nat} (hC : ∀ e σ, Q .normal e σ → C e) (hcg : ∀ e e', (∀ t ∈ us, e' t = e t) → C e' → C e) : ∀ (l : List GOp) (e : Env) (σ : Store), (∀ g ∈ l, g.op.goes = true ∧ apartSlot g.dst us = true) → runOps P Q l e σ → C e
  | [], e, σ, _, h => hC e σ h
  | g :: l, e, σ, hl, h => by
    rw [runOps_one] at h
    obtain ⟨h1, h2⟩ := hl g (by simp)
    obtain ⟨v, σ', h⟩ := one_goes h1 h
    exact hcg e _ (apartSlot_upd h2) (fin_of hC hcg l _ σ' (fun g hg => hl g (by simp [hg])) h)
theorem apartAll_mem {prs : List (AX × AX)} {e : Env} (h : apartAll prs e) {x y : AX} (hm : (x, y) ∈ prs) : apartA (x.ev e) (y.ev e) := by
  induction prs with
  | nil => cases hm
  | cons p r ih =>
    obtain ⟨a, b⟩ := p
    rcases List.mem_cons.1 hm with h1 | h1
    · cases h1; exact h.1
    · exact ih h.2 h1
def dstsOf (ops : Nat → GOp) (j k : Nat) : List Nat := (List.range' j (k - j)).filterMap fun m => (ops m).dst
theorem dstsOf_le {ops : Nat → GOp} {i j k : Nat} (h : i ≤ j) : ∀ t ∈ dstsOf ops j k, t ∈ dstsOf ops i k := by
  intro t ht
  obtain ⟨m, hm, he⟩ := List.mem_filterMap.1 ht
  rw [List.mem_range'_1] at hm
  exact List.mem_filterMap.2 ⟨m, by rw [List.mem_range'_1]; omega, he⟩
def PairOk (ops : Nat → GOp) (n : Nat) (prs : List (AX × AX)) (ck : List Nat) (j k : Nat) : Prop :=
  (compat (ops j) ((ops k).cut (dstsOf ops j k)) = true ∧ ((ops k).op.isPc = true → flagged prs = true)) ∧ ∀ x y, needs (ops j) (ops k) = some (x, y) → (x, y) ∈ prs ∧ ∀ m, j ≤ m → m < n → (m = k ∨ m ∉ ck) → (ops m).op.goes = true ∧ apartSlot (ops m).dst (x.uses ++ y.uses) = true
theorem bubble {ops : Nat → GOp} {n : Nat} {prs : List (AX × AX)} {k : Nat} {ck : List Nat} {l2 : List Nat} : ∀ (l1 : List Nat) (e : Env) (σ : Store), (∀ j ∈ l1, PairOk ops n prs ck j k) → (∀ m ∈ l1 ++ l2, m ∉ ck) → (l1 ++ k :: l2).Pairwise (· < ·) → (∀ i ∈ l1 ++ k :: l2, i < n) →
    runOps P (condQ prs Q) ((l1 ++ k :: l2).map ops) e σ → runOne P (condQ prs Q) ((ops k).cut (match l1 with | [] => [] | j :: _ => dstsOf ops j k)) (runOps P (condQ prs Q) ((l1 ++ l2).map ops)) e σ
  | [], e, σ, _, _, _, _, h => by
    rw [List.nil_append, List.map_cons, runOps_one] at h
    exact one_cut h
  | j :: l1, e, σ, hc, hnc, hs, hn, h => by
    rw [List.cons_append, List.map_cons, runOps_one] at h
    rw [List.cons_append, List.map_cons]
    have heq : runOps P (condQ prs Q) (ops j :: (l1 ++ l2).map ops) = runOne P (condQ prs Q) (ops j) (runOps P (condQ prs Q) ((l1 ++ l2).map ops)) := by funext e σ; exact runOps_one _ _ _ _
    rw [heq]
    rw [List.cons_append, List.pairwise_cons] at hs
    obtain ⟨hp1, hp2⟩ := hc j (by simp)
    refine swap hp1.1 (fun h v e e' σ => condQ_pan (hp1.2 (by rw [pc_cut] at h; exact h))) (fun x y hxy => ?_) (one_mono (fun e σ h => ?_) h)
    · rw [needs_cut] at hxy
      obtain ⟨hm, hall⟩ := hp2 x y hxy
      have hjk : j < k := hs.1 k (by simp)
      refine ⟨⟨(hall j (Nat.le_refl _) (hn j (by simp)) (.inr (hnc j (by simp)))).2, (hall k (Nat.le_of_lt hjk) (hn k (by simp)) (.inl rfl)).2⟩, fun e σ hK => ?_⟩
      refine fin_of (Q := condQ prs Q) (C := fun e => apartA (x.ev e) (y.ev e)) (us := x.uses ++ y.uses) (fun e σ h => apartAll_mem h.1 hm) (fun e e' he h => ?_) _ e σ (fun g hg => ?_) hK
      · rw [AX.ev_congr (x := x) (fun t ht => (he t (List.mem_append_left _ ht)).symm), AX.ev_congr (x := y) (fun t ht => (he t (List.mem_append_right _ ht)).symm)]
        exact h
      · obtain ⟨m, hm1, rfl⟩ := List.mem_map.1 hg
        have hm2 : m ∈ l1 ++ k :: l2 := by
          rcases List.mem_append.1 hm1 with h | h <;> simp [h]
        exact hall m (Nat.le_of_lt (hs.1 m hm2)) (hn m (List.mem_cons_of_mem _ hm2)) (.inr (hnc m (List.mem_cons_of_mem _ hm1)))
    · have := bubble l1 e σ (fun j hj => hc j (by simp [hj])) (fun m hm => hnc m (List.mem_cons_of_mem _ hm)) hs.2 (fun i hi => hn i (List.mem_cons_of_mem _ hi)) h
      refine one_le (fun t ht => ?_) this
      cases l1 with
      | nil => cases ht
      | cons j' l1 => exact dstsOf_le (Nat.le_of_lt (hs.1 j' (by simp))) t ht
theorem behind {aft cl : Nat → List Nat} {l : List Nat} (hlt : ∀ k, ∀ m ∈ aft k, m < k) (hcl : ∀ k, ∀ j ∈ cl k, j ∈ aft k ∨ ∃ m ∈ aft k, j ∈ cl m) (hinv : ∀ z, z ∉ l → ∀ i ∈ aft z, i ∉ l) {j : Nat} :
    ∀ (k : Nat), (∀ i ∈ aft k, i ∉ l) → j ∈ cl k → j ∉ l := by
  intro k
  induction k using Nat.strongRecOn with
  | _ k ih =>
    intro hr hj
    rcases hcl k j hj with h | ⟨m, hm, h⟩
    · exact hr j h
    · exact ih m (hlt k m hm) (hinv m (hr m hm)) h
theorem any_of_text {ops ops0 : Nat → GOp} {aft cl : Nat → List Nat} {N : Nat} {prs : List (AX × AX)} (h0 : ∀ (i : Nat) (D : List Nat) (K : Env → Store → Prop) (e : Env) (σ : Store), runOne P (condQ prs Q) ((ops i).cut D) K e σ → runOne P (condQ prs Q) (ops0 i) K e σ) (hlt : ∀ k, ∀ m ∈ aft k, m < k) (hcl : ∀ k, ∀ j ∈ cl k, j ∈ aft k ∨ ∃ m ∈ aft k, j ∈ cl m) : ∀ (n : Nat) (l : List Nat) (e : Env) (σ : Store), l.length = n →
    (∀ z, z ∉ l → ∀ i ∈ aft z, i ∉ l) → (∀ i ∈ l, i < N) → l.Pairwise (fun j k => j < k ∧ (j ∈ cl k ∨ PairOk ops N prs (cl k) j k)) → runOps P (condQ prs Q) (l.map ops) e σ → anyA P (condQ prs Q) ops0 aft n l e σ := by
  intro n
  induction n with
  | zero => intro l e σ hl _ _ _ h; cases l with | nil => exact ⟨rfl, h⟩ | cons => cases hl
  | succ n ih =>
    intro l e σ hl hinv hN hp h
    refine ⟨fun hno => ?_, fun i hi hr => ?_⟩
    · cases l with
      | nil => exact h
      | cons x r =>
        obtain ⟨j, hj, hjl⟩ := hno x (by simp)
        have h1 := hlt x j hj
        rcases List.mem_cons.1 hjl with rfl | h2
        · exact absurd h1 (Nat.lt_irrefl _)
        · have := ((List.pairwise_cons.1 hp).1 j h2).1
          omega
    · obtain ⟨l1, l2, rfl, hni⟩ := List.eq_append_cons_of_mem hi
      have he : (l1 ++ i :: l2).erase i = l1 ++ l2 := by rw [List.erase_append_right _ hni, List.erase_cons_head]
      have hp' := List.pairwise_append.1 hp
      have hcp : ∀ j ∈ l1, PairOk ops N prs (cl i) j i := fun j hj => by
        rcases (hp'.2.2 j hj i (by simp)).2 with h1 | h1
        · exact absurd (by simp [hj]) (behind hlt hcl hinv i hr h1)
        · exact h1
      have hb := bubble l1 e σ hcp (fun m hm hmc => behind hlt hcl hinv i hr hmc (by rcases List.mem_append.1 hm with h | h <;> simp [h])) (hp.imp fun h => h.1) hN h
      have hb := h0 _ _ _ _ _ hb
      rw [he]
      refine one_mono (fun e σ h => ih _ e σ ?_ (fun z hz j hj hjl => ?_) (fun m hm => hN m ?_) ?_ h) hb
      · simp at hl ⊢; omega
      · have hjl' : j ∈ l1 ++ i :: l2 := by
          rcases List.mem_append.1 hjl with h | h <;> simp [h]
        by_cases hzi : z = i
        · subst hzi; exact hr j hj hjl'
        · refine hinv z (fun hz' => hz ?_) j hj hjl'
          rcases List.mem_append.1 hz' with h | h
          · simp [h]
          · rcases List.mem_cons.1 h with h | h
            · exact absurd h hzi
            · simp [h]
      · rcases List.mem_append.1 hm with h | h <;> simp [h]
      · refine List.Pairwise.sublist ?_ hp
        exact List.Sublist.append_left (List.sublist_cons_self _ _) _
end
section
variable {P : Program}
def CG (P : Program) (nt : Nat) (h : Hints) (dr : Bool) (all : Array Oper) (o : Oper) (g : GOp) : Prop :=
  compileOp P nt h dr o = some g.op ∧ g.dst = o.dst ∧ match o.guard with
    | none => g.guard = none
    | some (j, b) => ∃ k, (all[j]?).bind (·.dst) = some k ∧ k < nt ∧ g.guard = some (k, b)
theorem compileOps_get {nt : Nat} {h : Hints} {dr : Bool} {all : Array Oper} : ∀ (l : List Oper) (gs : List GOp), compileOps P nt h dr all l = some gs → gs.length = l.length ∧ ∀ (i : Nat) (o : Oper), l[i]? = some o → ∃ g, gs[i]? = some g ∧ CG P nt h dr all o g := by
  intro l
  induction l with
  | nil => intro gs hc; cases hc; exact ⟨rfl, fun i o hi => by cases hi⟩
  | cons o l ih =>
    intro gs hc
    simp only [compileOps] at hc
    split at hc
    · rename_i ao gs' h1 h2
      obtain ⟨i1, i2⟩ := ih gs' h2
      split at hc
      · rename_i hg
        cases hc
        refine ⟨by simp [i1], fun i o' hi => ?_⟩
        cases i with
        | zero => cases hi; exact ⟨_, rfl, h1, rfl, by rw [hg]⟩
        | succ i => exact i2 i o' hi
      · rename_i j b hg
        split at hc
        · rename_i k hk
          split at hc
          · rename_i hlt
            cases hc
            refine ⟨by simp [i1], fun i o' hi => ?_⟩
            cases i with
            | zero => cases hi; exact ⟨_, rfl, h1, rfl, by rw [hg]; exact ⟨k, hk, hlt, rfl⟩⟩
            | succ i => exact i2 i o' hi
          · cases hc
        · cases hc
    · cases hc
theorem gop_sound {X : List Deferred} {ro : Option Nat} {wn : Nat} {nt : Nat} {h : Hints} {dr : Bool} {ops : Array Oper} {B : Nat → Prop} {Q : AQ} {g0 : Ghost} {w0 : World} {σ0 : Store} {o : Oper} {gp : GOp} {i : Nat} {K : Env → Store → Prop} {KK : Act → World → Prop}
    {g : Ghost} {w : World} {σ : Store} {e : Env} {a : Act} (hcg : CG P nt h dr ops o gp) (h0 : ops[i]? = some o) (hR : Rel g w σ) (hE : EnvR nt g w e a.tmps) (hd : DefOk X B σ g w a.defers) (hev : Evo σ0 g0 w0 σ g w)
    (hk : ∀ g' w' σ' e' a', K e' σ' → Rel g' w' σ' → EnvR nt g' w' e' a'.tmps → DefOk X B σ' g' w' a'.defers → Evo σ0 g0 w0 σ' g' w' → KK a' w') (hw : runOne P Q gp K e σ) : wpOpIn (WF ro) wn P ops (QR X nt B g0 w0 σ0 Q) i KK a w := by
  obtain ⟨h1, hds, hgd⟩ := hcg
  have go : ∀ (e1 : Env), EnvR nt g w e1 a.tmps → gp.op.run P e1 σ (fun v σ' => K (upd e1 gp.dst v) σ') (fun v σ' => Q (.panic v) e1 σ') → o.wpIn (WF ro) wn P a w KK (QR X nt B g0 w0 σ0 Q) := fun e1 hE1 hrun => by
    rw [hds] at hrun
    refine Oper.wp_mono2 ?_ ?_ (op_sound h1 hR hE1 hrun)
    · rintro a' w' ⟨v, g', av, σ', rfl, r1, r2, r3, r4⟩
      exact hk g' w' σ' (upd e1 o.dst av) (a.put o.dst v) r4 r1 ((hE1.mono r2.mono).put o.dst r3) (by rw [put_defers]; exact hd.step r2) (hev.trans r2)
    · rintro ex a' w' ⟨rfl, v, g', av, σ', rfl, r1, r2, r3, r4⟩
      exact ⟨g', e1, σ', hd.step r2, r1, hE1.mono r2.mono, hev.trans r2, v, av, rfl, r3, r4⟩
  have pass : ∀ (e1 : Env), EnvR nt g w e1 a.tmps → K (upd e1 gp.dst (.tup [])) σ → KK (a.put o.dst Go.undef) w := fun e1 hE1 hrun =>
    hk g w σ (upd e1 gp.dst (.tup [])) (a.put o.dst Go.undef) hrun hR (by rw [hds]; exact hE1.put o.dst (.tup [] #[] rfl (fun i hi => absurd hi (Nat.not_lt_zero _)))) (by rw [put_defers]; exact hd) hev
  unfold wpOpIn
  simp only [h0]
  unfold runOne at hw
  split at hgd
  · rename_i hg
    simp only [hgd] at hw
    have hwant : Region.wanted o (yielded ops a.tmps) = true := by simp [Region.wanted, hg]
    rw [if_pos hwant]
    exact go e hE hw
  · rename_i j b hg
    obtain ⟨k, hk', hlt, hgg⟩ := hgd
    simp only [hgg] at hw
    obtain ⟨w1, w2⟩ := wanted_of (ops := ops) hE hg hk' hlt
    split at hw
    · rename_i t ht
      have hwn := w1 t ht
      by_cases htb : t = b
      · subst htb
        rw [hwn, if_pos (by simp)]
        exact go _ (hE.congr ht) (hw.1 rfl)
      · have : t = !b := by cases t <;> cases b <;> simp_all
        rw [hwn, if_neg (by simpa using htb)]
        refine ⟨fun _ _ => trivial, pass _ (hE.congr ?_) (hw.2 this)⟩
        rw [ht, this]
    · rename_i ht
      rw [w2 ht, if_neg (by simp)]
      exact ⟨fun _ _ => trivial, pass e hE hw⟩
    · exact hw.elim
def aftOf (ops : Array Oper) (i : Nat) : List Nat :=
  match ops[i]? with
  | some o => (o.after.toList.filter (Region.binds .any)).map (·.on)
  | none => []
def noGOp : GOp := ⟨.mkvec ⟨false, 0⟩, none, none⟩
theorem any_sound {X : List Deferred} {ro : Option Nat} {wn : Nat} {nt : Nat} {h : Hints} {ops : Array Oper} {B : Nat → Prop} {Q : AQ} {g0 : Ghost} {w0 : World} {σ0 : Store} {gs : List GOp} (hc : compileOps P nt h true ops ops.toList = some gs) (hlt : ∀ i, ∀ j ∈ aftOf ops i, j < i) :
    ∀ (n : Nat) (l : List Nat) (listed : Array Bool) (g : Ghost) (w : World) (σ : Store) (e : Env) (a : Act), listed.size = ops.size → l.Nodup → (∀ i, i ∈ l ↔ i < ops.size ∧ listed.getD i true = false) →
      anyA P Q (fun i => gs.getD i noGOp) (aftOf ops) n l e σ → Rel g w σ → EnvR nt g w e a.tmps → DefOk X B σ g w a.defers → Evo σ0 g0 w0 σ g w →
      wpAnyIn (WF ro) wn P .any ops (QR X nt B g0 w0 σ0 Q) n listed a w := by
  obtain ⟨hlen, hget⟩ := compileOps_get ops.toList gs hc
  have mem : ∀ (l : List Nat) (listed : Array Bool), (∀ i, i ∈ l ↔ i < ops.size ∧ listed.getD i true = false) → ∀ i, i ∈ Region.ready .any ops listed → i ∈ l ∧ ∀ j ∈ aftOf ops i, j ∉ l := by
    intro l listed hl i hi
    simp only [Region.ready, List.mem_filter, List.mem_range, Bool.and_eq_true, Bool.not_eq_true'] at hi
    obtain ⟨hlt, hun, haft⟩ := hi
    refine ⟨(hl i).2 ⟨hlt, hun⟩, fun j hj hjl => ?_⟩
    obtain ⟨hj1, hj2⟩ := (hl j).1 hjl
    have ho : ops[i]? = some ops[i] := by simp [hlt]
    simp only [aftOf, ho, List.mem_map, List.mem_filter] at hj
    obtain ⟨ed, ⟨he1, he2⟩, rfl⟩ := hj
    simp only [ho, Option.map_some, Option.getD_some] at haft
    have := Array.all_eq_true_iff_forall_mem.1 haft ed (by simpa using he1)
    simp only [he2, Bool.not_true, Bool.false_or] at this
    rcases Nat.lt_or_ge ed.on listed.size with h' | h'
    · simp [h'] at this hj2; rw [this] at hj2; cases hj2
    · simp [Array.getElem?_eq_none h'] at this
  have mem2 : ∀ (l : List Nat) (listed : Array Bool), listed.size = ops.size → (∀ i, i ∈ l ↔ i < ops.size ∧ listed.getD i true = false) → Region.ready .any ops listed = [] → ∀ i ∈ l, ∃ j ∈ aftOf ops i, j ∈ l := by
    intro l listed hsz hl hnil i hi
    obtain ⟨hi1, hun⟩ := (hl i).1 hi
    have ho : ops[i]? = some ops[i] := by simp [hi1]
    have hnot : i ∉ Region.ready .any ops listed := by rw [hnil]; simp
    simp only [Region.ready, List.mem_filter, List.mem_range, Bool.and_eq_true, Bool.not_eq_true', hi1, hun, ho, Option.map_some, Option.getD_some, true_and, Array.all_eq_true_iff_forall_mem] at hnot
    simp only [Classical.not_forall, Bool.not_eq_true, Bool.or_eq_false_iff, Bool.not_eq_false'] at hnot
    obtain ⟨ed, he, hbd, hls⟩ := hnot
    have hj : ed.on ∈ aftOf ops i := by
      simp only [aftOf, ho, List.mem_map, List.mem_filter]
      exact ⟨ed, ⟨by simpa using he, hbd⟩, rfl⟩
    have h1 := hlt i _ hj
    refine ⟨_, hj, (hl _).2 ⟨by omega, ?_⟩⟩
    have h2 : ed.on < listed.size := by omega
    simp [h2] at hls ⊢
    exact hls
  intro n
  induction n with
  | zero =>
    intro l listed g w σ e a hsz hnd hl ha hR hE hd hev
    obtain ⟨rfl, hq⟩ := ha
    refine ⟨?_, g, e, σ, hd, hR, hE, hev, hq⟩
    refine List.eq_nil_iff_forall_not_mem.2 fun i hi => ?_
    exact absurd (mem _ _ hl i hi).1 (by simp)
  | succ n ih =>
    intro l listed g w σ e a hsz hnd hl ha hR hE hd hev
    refine ⟨fun hnil => ⟨g, e, σ, hd, hR, hE, hev, ha.1 (mem2 l listed hsz hl hnil)⟩, fun i hi => ?_⟩
    obtain ⟨hil, hr⟩ := mem l listed hl i hi
    have hlt' := ((hl i).1 hil).1
    have ho : ops[i]? = some ops[i] := by simp [hlt']
    obtain ⟨gp, hgp, hcg⟩ := hget i ops[i] (by simp [hlt'])
    have hrun := ha.2 i hil hr
    have hgd : gs.getD i noGOp = gp := by simp [List.getD, hgp]
    have hrun : runOne P Q gp (anyA P Q (fun i => gs.getD i noGOp) (aftOf ops) n (l.erase i)) e σ := by rw [← hgd]; exact hrun
    refine gop_sound hcg ho hR hE hd hev (fun g' w' σ' e' a' hK hR' hE' hd' hev' => ?_) hrun
    refine ih (l.erase i) _ g' w' σ' e' a' (by simp [hsz]) (hnd.erase i) (fun k => ?_) hK hR' hE' hd' hev'
    rw [hnd.mem_erase_iff, hl k]
    by_cases hki : k = i
    · subst hki
      simp [hsz, hlt']
    · have : (listed.setIfInBounds i true).getD k true = listed.getD k true := by
        simp [Array.getD_eq_getD_getElem?, Array.getElem?_setIfInBounds_ne (Ne.symm hki)]
      rw [this]
      simp [hki]
def closL (aft : Nat → List Nat) : Nat → List (List Nat)
  | 0 => []
  | n + 1 => let c := closL aft n; c ++ [((aft n).flatMap fun m => c.getD m []).foldl (fun l x => if l.contains x then l else x :: l) (aft n)]
def drawOkA (n : Nat) (aft : Nat → List Nat) (gs : List GOp) : Bool :=
  let cl := closL aft n
  (List.range n).all fun k => (aft k).all (· < k) && (cl.getD k []).all (fun j => (aft k).contains j || (aft k).any fun m => (cl.getD m []).contains j) &&
    (List.range k).all fun j => (cl.getD k []).contains j || (compat (gs.getD j noGOp) ((gs.getD k noGOp).cut (dstsOf (fun i => gs.getD i noGOp) j k)) && match needs (gs.getD j noGOp) (gs.getD k noGOp) with
      | some (x, y) => (List.range n).all fun m => decide (m < j) || (decide (m ≠ k) && (cl.getD k []).contains m) || ((gs.getD m noGOp).op.goes && apartSlot (gs.getD m noGOp).dst (x.uses ++ y.uses))
      | none => true)
def drawPrsA (n : Nat) (aft : Nat → List Nat) (gs : List GOp) : List (AX × AX) :=
  let cl := closL aft n
  ((List.range n).flatMap fun k => (List.range k).filterMap fun j => if (cl.getD k []).contains j then none else needs (gs.getD j noGOp) (gs.getD k noGOp)) ++ if gs.any fun g => g.op.isPc then [(.c .nilm, .c .nilm)] else []
def lateOrd (h : Hints) (ops : Array Oper) : List Nat :=
  let n := ops.size
  let cl := closL (aftOf ops) n
  let ls := (List.range n).filter fun i => match (ops[i]?).bind (·.dst) with
    | some d => h.mth.contains (100000 + d)
    | none => false
  let late := fun k => ls.contains k || ls.any fun i => (cl.getD k []).contains i
  (List.range n).filter (fun k => !late k) ++ (List.range n).filter late
def permOk (n : Nat) (p : List Nat) : Bool := decide (p.length = n) && decide p.Nodup && p.all (· < n) && (List.range n).all fun x => p.contains x
def aftP (aft : Nat → List Nat) (p : List Nat) (i : Nat) : List Nat := match p[i]? with
  | some k => (aft k).map fun j => p.idxOf j
  | none => []
def permG (gs : List GOp) (p : List Nat) : List GOp := p.map fun i => gs.getD i noGOp
def ltOk (n : Nat) (aft : Nat → List Nat) : Bool := (List.range n).all fun k => (aft k).all (· < k)
theorem closL_len (aft : Nat → List Nat) : ∀ n, (closL aft n).length = n
  | 0 => rfl
  | n + 1 => by simp [closL, closL_len aft n]
theorem QR.mono {X : List Deferred} {nt : Nat} {B : Nat → Prop} {g : Ghost} {w : World} {σ : Store} {Q Q' : AQ} (h : ∀ ex e σ, Q ex e σ → Q' ex e σ) {ex : Exit} {a : Act} {w2 : World} (hq : QR X nt B g w σ Q ex a w2) : QR X nt B g w σ Q' ex a w2 := by
  obtain ⟨g', e', σ', h1, h2, h3, h4, h5⟩ := hq
  refine ⟨g', e', σ', h1, h2, h3, h4, ?_⟩
  cases ex with
  | panic chain => obtain ⟨v, av, r1, r2, r3⟩ := h5; exact ⟨v, av, r1, r2, h _ _ _ r3⟩
  | outgrown => exact h5
  | normal => exact h _ _ _ h5
  | exit id => exact h _ _ _ h5
  | goto l => exact h _ _ _ h5
  | ret => exact h _ _ _ h5
theorem drawA {Q : AQ} {n : Nat} {aft : Nat → List Nat} {gs gs0 : List GOp} {e : Env} {σ : Store} (h0 : ∀ (i : Nat) (D : List Nat) (K : Env → Store → Prop) (e : Env) (σ : Store), runOne P (condQ (drawPrsA n aft gs) Q) ((gs.getD i noGOp).cut D) K e σ → runOne P (condQ (drawPrsA n aft gs) Q) (gs0.getD i noGOp) K e σ) (hlen : gs.length = n) (hz : ∀ z, n ≤ z → aft z = []) (hok : drawOkA n aft gs = true) (hw : runOps P (condQ (drawPrsA n aft gs) Q) gs e σ) :
    anyA P (condQ (drawPrsA n aft gs) Q) (fun i => gs0.getD i noGOp) aft n (List.range n) e σ := by
  simp only [drawOkA, List.all_eq_true, List.mem_range, Bool.and_eq_true, Bool.or_eq_true, decide_eq_true_eq, List.any_eq_true, List.contains_iff_mem] at hok
  have hlt : ∀ i, ∀ j ∈ aft i, j < i := fun i j hj => by
    by_cases hi : i < n
    · exact (hok i hi).1.1 j hj
    · rw [hz i (Nat.le_of_not_lt hi)] at hj; cases hj
  refine any_of_text (ops := fun i => gs.getD i noGOp) (cl := fun k => (closL aft n).getD k []) (N := n) h0 hlt (fun k j hj => ?_) _ _ e σ (by simp) (fun z hz' i hi => ?_) (fun i hi => by simpa using hi) ?_ ?_
  · by_cases hk : k < n
    · exact (hok k hk).1.2 j hj
    · have : (closL aft n).getD k [] = [] := by
        have := closL_len aft n
        rw [List.getD_eq_getElem?_getD, List.getElem?_eq_none (by omega)]; rfl
      rw [this] at hj; cases hj
  · have : aft z = [] := hz z (by simpa using hz')
    rw [this] at hi; cases hi
  · refine List.pairwise_iff_getElem.2 fun i j hi hj hij => ?_
    simp only [List.getElem_range]
    simp at hi hj
    refine ⟨hij, ?_⟩
    by_cases hcl : i ∈ (closL aft n).getD j []
    · exact .inl hcl
    · refine .inr ?_
      rcases (hok j hj).2 i hij with h1 | ⟨h1, h2⟩
      · exact absurd h1 hcl
      · refine ⟨⟨h1, fun hpc => ?_⟩, fun x y hxy => ⟨?_, fun m hm1 hm2 hm3 => ?_⟩⟩
        · have ha : (gs.any fun g => g.op.isPc) = true := List.any_eq_true.2 ⟨_, (by show gs.getD j noGOp ∈ gs; rw [List.getD_eq_getElem?_getD, List.getElem?_eq_getElem (by omega)]; exact List.getElem_mem _), hpc⟩
          unfold flagged drawPrsA
          rw [if_pos ha]
          simp [isMark]
        · refine List.mem_append_left _ (List.mem_flatMap.2 ⟨j, by simpa using hj, List.mem_filterMap.2 ⟨i, by simpa using hij, ?_⟩⟩)
          rw [if_neg (by simpa [List.contains_iff_mem] using hcl)]
          exact hxy
        · simp only [hxy, List.all_eq_true, List.mem_range, Bool.and_eq_true, Bool.or_eq_true, decide_eq_true_eq] at h2
          rcases h2 m hm2 with (h3 | h3) | h3
          · omega
          · rcases hm3 with h4 | h4
            · exact absurd h4 h3.1
            · exact absurd (List.contains_iff_mem.1 h3.2) h4
          · exact h3
  · have : (List.range n).map (fun i => gs.getD i noGOp) = gs := by
      apply List.ext_getElem
      · simp [hlen]
      · intro i h1 h2; simp [List.getD_eq_getElem?_getD, h2]
    rw [this]
    exact hw
theorem anyA_ren {Q : AQ} {ops ops' : Nat → GOp} {aft aft' : Nat → List Nat} {N : Nat} {f : Nat → Nat} (hinj : ∀ i, i < N → ∀ j, j < N → f i = f j → i = j) (hops : ∀ i, i < N → ops' i = ops (f i)) (haft : ∀ i, i < N → ∀ j, j < N → (j ∈ aft' i ↔ f j ∈ aft (f i))) :
    ∀ (n : Nat) (l l' : List Nat) (e : Env) (σ : Store), l.Nodup → l'.Nodup → (∀ i ∈ l, i < N) → (∀ x, x ∈ l' ↔ ∃ i, i ∈ l ∧ f i = x) → anyA P Q ops' aft' n l e σ → anyA P Q ops aft n l' e σ
  | 0, l, l', e, σ, _, _, _, hl, h => by
    obtain ⟨h1, h2⟩ := h
    subst h1
    refine ⟨?_, h2⟩
    cases l' with
    | nil => rfl
    | cons x _ => obtain ⟨i, hi, _⟩ := (hl x).1 (by simp); cases hi
  | n + 1, l, l', e, σ, hd, hd', hN, hl, h => by
    obtain ⟨h1, h2⟩ := h
    refine ⟨fun hx => h1 fun i hi => ?_, fun x hx hr => ?_⟩
    · obtain ⟨y, hy1, hy2⟩ := hx (f i) ((hl _).2 ⟨i, hi, rfl⟩)
      obtain ⟨j, hj, rfl⟩ := (hl y).1 hy2
      exact ⟨j, (haft i (hN i hi) j (hN j hj)).2 hy1, hj⟩
    · obtain ⟨i, hi, rfl⟩ := (hl x).1 hx
      have h3 := h2 i hi fun j hj hjl => hr (f j) ((haft i (hN i hi) j (hN j hjl)).1 hj) ((hl _).2 ⟨j, hjl, rfl⟩)
      rw [hops i (hN i hi)] at h3
      refine one_mono (fun e σ h4 => ?_) h3
      refine anyA_ren hinj hops haft n (l.erase i) (l'.erase (f i)) e σ (hd.erase i) (hd'.erase _) (fun k hk => hN k (List.mem_of_mem_erase hk)) (fun z => ?_) h4
      rw [hd'.mem_erase_iff, hl z]
      constructor
      · rintro ⟨hz, k, hk, rfl⟩
        exact ⟨k, hd.mem_erase_iff.2 ⟨fun hki => hz (by rw [hki]), hk⟩, rfl⟩
      · rintro ⟨k, hk, rfl⟩
        obtain ⟨hki, hk⟩ := hd.mem_erase_iff.1 hk
        exact ⟨fun hf => hki (hinj k (hN k hk) i (hN i hi) hf), k, hk, rfl⟩
theorem draw_sound {X : List Deferred} {ro : Option Nat} {wn : Nat} {nt : Nat} {h : Hints} {ops : Array Oper} {B : Nat → Prop} {Q : AQ} {gs : List GOp} {p : List Nat} {id : Nat} {g : Ghost} {w : World} {σ : Store} {e : Env} {a : Act} (hc : compileOps P nt h true ops ops.toList = some gs)
    (hlt : ltOk ops.size (aftOf ops) = true) (hp : permOk ops.size p = true) (hpl : gs.all (fun g => plainO g.op) = true) (hok : drawOkA ops.size (aftP (aftOf ops) p) (permG (gs.map (decor h)) p) = true) (hm : P.follows .mixedOrders = true) (hw : runOps P (condQ (drawPrsA ops.size (aftP (aftOf ops) p) (permG (gs.map (decor h)) p)) Q) (permG (gs.map (decor h)) p) e σ) (hR : Rel g w σ) (hE : EnvR nt g w e a.tmps) (hd : DefOk X B σ g w a.defers) : (Code.region id ops true).wpIn (WF ro) wn P (QR X nt B g w σ Q) a w := by
  have hlt' : ∀ i, ∀ j ∈ aftOf ops i, j < i := fun i j hj => by
    by_cases hi : i < ops.size
    · simp only [ltOk, List.all_eq_true, List.mem_range, decide_eq_true_eq] at hlt
      exact hlt i hi j hj
    · have : aftOf ops i = [] := by simp [aftOf, Array.getElem?_eq_none (Nat.le_of_not_lt hi)]
      rw [this] at hj; cases hj
  simp only [permOk, Bool.and_eq_true, decide_eq_true_eq, List.all_eq_true] at hp
  obtain ⟨⟨⟨hp1, hp2⟩, hp3⟩, hp4⟩ := hp
  refine wpIn_mono (wpIn_region_any hm ?_) fun ex a' w' => QR.mono (Q := condQ (drawPrsA ops.size (aftP (aftOf ops) p) (permG (gs.map (decor h)) p)) Q) fun _ _ _ => condQ_le
  have hR' := hR.drew (w.drawn + 1)
  have hev := Evo.drew σ g w (w.drawn + 1)
  refine any_sound hc hlt' ops.size (List.range ops.size) _ g _ σ e a (by simp) List.nodup_range (fun i => by simp; intro h; simp [h]) ?_ hR' (hE.mono hev.mono) (hd.step hev) hev
  have h0 : ∀ (Q : AQ) (i : Nat) (D : List Nat) (K : Env → Store → Prop) (e : Env) (σ : Store), runOne P Q (((permG (gs.map (decor h)) p).getD i noGOp).cut D) K e σ → runOne P Q ((permG gs p).getD i noGOp) K e σ := fun Q i D K e σ hh => by
    have e1 : ∀ k, (gs.map (decor h)).getD k noGOp = decor h (gs.getD k noGOp) := fun k => by
      rw [List.getD_eq_getElem?_getD, List.getD_eq_getElem?_getD, List.getElem?_map]
      cases gs[k]? <;> rfl
    have e2 : (permG (gs.map (decor h)) p).getD i noGOp = decor h ((permG gs p).getD i noGOp) := by
      unfold permG
      simp only [e1]
      rw [List.getD_eq_getElem?_getD, List.getD_eq_getElem?_getD, List.getElem?_map, List.getElem?_map]
      cases p[i]? <;> rfl
    rw [e2] at hh
    refine one_decor ?_ hh
    have e3 : ∀ k, plainO (gs.getD k noGOp).op = true := fun k => by
      rw [List.getD_eq_getElem?_getD]
      cases hk : gs[k]? with
      | none => rfl
      | some g => exact List.all_eq_true.1 hpl g (List.mem_of_getElem? hk)
    unfold permG
    rw [List.getD_eq_getElem?_getD, List.getElem?_map]
    cases p[i]? with
    | none => rfl
    | some k => exact e3 k
  have key := drawA (P := P) (Q := Q) (n := ops.size) (aft := aftP (aftOf ops) p) (gs := permG (gs.map (decor h)) p) (gs0 := permG gs p) (e := e) (σ := σ) (h0 _) (by simp [permG, hp1]) (fun z hz => by simp [aftP, List.getElem?_eq_none (show p.length ≤ z by omega)]) hok hw
  have hge : ∀ i (hi : i < ops.size), p[i]? = some (p.getD i 0) := fun i hi => by rw [List.getD_eq_getElem?_getD, List.getElem?_eq_getElem (by omega)]; rfl
  have hinj : ∀ i, i < ops.size → ∀ j, j < ops.size → p.getD i 0 = p.getD j 0 → i = j := fun i hi j hj hij => by
    have e1 := hge i hi
    have e2 := hge j hj
    rw [hij] at e1
    exact (List.getElem?_inj (by omega) hp2).1 (e1.trans e2.symm)
  have hidx : ∀ j, j < ops.size → p.idxOf (p.getD j 0) = j := fun j hj => by
    rw [List.getD_eq_getElem?_getD, List.getElem?_eq_getElem (by omega)]
    exact hp2.idxOf_getElem j (by omega)
  have hsur : ∀ x, x < ops.size → x ∈ p := fun x hx => List.contains_iff_mem.1 (hp4 x (by simpa using hx))
  refine anyA_ren (N := ops.size) (f := fun i => p.getD i 0) hinj (fun i hi => ?_) (fun i hi j hj => ?_) _ _ _ e σ List.nodup_range List.nodup_range (fun i hi => by simpa using hi) (fun x => ?_) key
  · simp only [permG, List.getD_eq_getElem?_getD, List.getElem?_map]
    rw [hge i hi]
    rfl
  · simp only [aftP]
    rw [hge i hi]
    simp only [List.mem_map]
    constructor
    · rintro ⟨k, hk, rfl⟩
      have hkp : k ∈ p := by
        have := hlt' _ k hk
        have h5 : p.getD i 0 < ops.size := hp3 _ (List.mem_of_getElem? (hge i hi))
        exact hsur k (by omega)
      have : p.getD (p.idxOf k) 0 = k := by
        rw [List.getD_eq_getElem?_getD, List.getElem?_eq_getElem (List.idxOf_lt_length_iff.2 hkp)]
        exact List.getElem_idxOf _
      rw [this]; exact hk
    · intro hk
      exact ⟨_, hk, hidx j hj⟩
  · constructor
    · intro hx
      have hx := hsur x (by simpa using hx)
      obtain ⟨i, hi, rfl⟩ := List.getElem_of_mem hx
      exact ⟨i, by simp; omega, by rw [List.getD_eq_getElem?_getD, List.getElem?_eq_getElem hi]; rfl⟩
    · rintro ⟨i, hi, rfl⟩
      simp only [List.mem_range] at hi ⊢
      exact hp3 _ (List.mem_of_getElem? (hge i hi))
end
end Go.AM
