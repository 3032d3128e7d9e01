/- Part of a proof: see Root. -/
import Derived.Test.YthkhdedadacakaaGreatDoorY21
set_option linter.unnecessarySimpa false
set_option linter.unusedSimpArgs false
set_option linter.unusedVariables false
namespace Go.Proofs.YthkhdedadacakaaGreatDoor
open Go.AM
set_option maxRecDepth 4000
abbrev TB : TypeId := 126
abbrev TU : TypeId := 5
def Bld (T : TypeId) (σ : Store) (l : Nat) (s : Str) : Prop := ∃ p v, σ[l]? = some (.cellsT (some T) [p, v]) ∧ (p = .nilp ∨ p = .ref l 0) ∧
  ((s = [] ∧ v = .nils) ∨ (s ≠ [] ∧ ∃ k, k ≠ l ∧ v = .own E1 k s.length 0 s.length ∧ σ[k]? = some (.vecT (some TU) E1 (eBytes s))))
def Beside (l : Nat) (σ σ' : Store) : Prop := σ.length ≤ σ'.length ∧ ∀ j o, σ[j]? = some o → j ≠ l → (∀ T xs, o ≠ .vecT (some T) E1 xs) → σ'[j]? = some o
theorem Beside.refl (l : Nat) (σ : Store) : Beside l σ σ := ⟨Nat.le_refl _, fun _ _ h _ _ => h⟩
theorem lt_of {σ : Store} {l : Nat} {o : AObj} (h : σ[l]? = some o) : l < σ.length := (List.getElem?_eq_some_iff.1 h).1
theorem noesc_ok : ∃ fn, Tryz.prog.funcs[182]? = some fn ∧ (fn.name == "runtime.NumGoroutine") = false ∧ fn.body.isNone = true ∧ Extern.findNext fn = none ∧ Extern.find fn = some Extern.AbiNoEscape.same :=
  ⟨_, Tryz.func182, by kernel_rfl, by kernel_rfl, by kernel_rfl, by kernel_rfl⟩
def Lies (T : TypeId) : Prop := liesAt Tryz.prog Tryz.prog.depth T (2 / Tryz.prog.cellsOf T) 0 TB 1 = true
theorem lies_TB : Lies TB := by unfold Lies; kernel_rfl
theorem Builder_copyCheck {T : TypeId} (hT : Lies T) (σ : Store) (l : Nat) (p v : AV) (h : σ[l]? = some (.cellsT (some T) [p, v])) (hp : p = .nilp ∨ p = .ref l 0) :
    CallA Tryz.prog n_strings_Builder_copyCheck [.ref l 0] σ fun o σ' => o = .ret (.tup []) ∧ σ' = σ.set l (.cellsT (some T) [.ref l 0, v]) := by
  have hset : σ.set l (.cellsT (some T) [.ref l 0, v]) = σ ∨ p = .nilp := by
    rcases hp with rfl | rfl
    · exact .inr rfl
    · left
      apply List.ext_getElem?
      intro k
      by_cases e : k = l
      · subst e; rw [List.getElem?_set_self (lt_of h)]; exact h.symm
      · rw [List.getElem?_set_ne (Ne.symm e)]
  refine of_strings_Builder_copyCheck (by simp) ?_
  unfold b_strings_Builder_copyCheck WpR
  intro Q hQr hQn hQp
  rcases hp with rfl | rfl
  · repeat' first | simp (disch := omega) only [go_sem, hQr, hQn, hQp, wrapK_i64, wrapK_u8, wrapK_u64, Nat.reduceAdd, Nat.reduceBEq, ↓reduceIte, h] | refine go_ ?_ | refine p2u_i h (by simp) ?_ | refine noesc_i noesc_ok ?_ | refine u2p_i h hT ?_ | refine br_ (fun hw => ?_) (fun hw => ?_) <;> try omega | fail
    exact ⟨by trivial, by trivial⟩
  · rcases hset with hset | hset
    · repeat' first | simp (disch := omega) only [go_sem, hQr, hQn, hQp, wrapK_i64, wrapK_u8, wrapK_u64, Nat.reduceAdd, Nat.reduceBEq, ↓reduceIte, h] | refine go_ ?_ | refine eqp_i h ?_ | refine br_ (fun hw => ?_) (fun hw => ?_) <;> try omega | fail
      exact ⟨rfl, hset.symm⟩
    · cases hset
theorem Builder_Len {T : TypeId} (σ : Store) (l : Nat) (s : Str) (h : Bld T σ l s) : CallA Tryz.prog n_strings_Builder_Len [.ref l 0] σ fun o σ' => o = .ret (I s.length) ∧ σ' = σ := by
  obtain ⟨p, v, h1, h2, h3⟩ := h
  refine of_strings_Builder_Len (by simp) ?_
  unfold b_strings_Builder_Len WpR
  intro Q hQr hQn hQp
  rcases h3 with ⟨rfl, rfl⟩ | ⟨h3, k, h4, rfl, h5⟩
  · repeat' first | simp (disch := omega) only [go_sem, hQr, hQn, hQp, wrapK_i64, wrapK_u8, wrapK_u64, Nat.reduceAdd, Nat.reduceBEq, ↓reduceIte, h1] | refine go_ ?_ | refine br_ (fun hw => ?_) (fun hw => ?_) <;> try omega | fail
    exact ⟨rfl, trivial⟩
  · repeat' first | simp (disch := omega) only [go_sem, hQr, hQn, hQp, wrapK_i64, wrapK_u8, wrapK_u64, Nat.reduceAdd, Nat.reduceBEq, ↓reduceIte, h1] | refine go_ ?_ | refine br_ (fun hw => ?_) (fun hw => ?_) <;> try omega | fail
    exact ⟨rfl, trivial⟩
theorem Builder_WriteString {T : TypeId} (hT : Lies T) (σ : Store) (l : Nat) (s t : Str) (h : Bld T σ l s) (hlen : s.length + t.length ≤ 2 ^ 38) :
    CallA Tryz.prog n_strings_Builder_WriteString [.ref l 0, .str t] σ fun o σ' => o = .ret (.tup [I t.length, .nili]) ∧ Bld T σ' l (s ++ t) ∧ Beside l σ σ' := by
  obtain ⟨p, v, h1, h2, h3⟩ := h
  have hl := lt_of h1
  refine of_strings_Builder_WriteString (by simp) ?_
  unfold b_strings_Builder_WriteString WpR
  intro Q hQr hQn hQp
  have hcc := Builder_copyCheck hT σ l p v h1 h2
  have h1' : (σ.set l (.cellsT (some T) [.ref l 0, v]))[l]? = some (.cellsT (some T) [.ref l 0, v]) := by simp [hl]
  have beside : ∀ (o : AObj), Beside l σ (σ.set l o) := fun o => ⟨by simp, fun j o' hj hne _ => by rw [List.getElem?_set_ne (Ne.symm hne)]; exact hj⟩
  rcases h3 with ⟨rfl, rfl⟩ | ⟨h3, k, h4, rfl, h5⟩
  · cases t with
    | nil =>
      repeat' first | simp (disch := omega) only [go_sem, hQr, hQn, hQp, wrapK_i64, wrapK_u8, wrapK_u64, Nat.reduceAdd, Nat.reduceBEq, ↓reduceIte, h1'] | refine go_ ?_ | with_reducible refine callL_any hcc ?_ | refine br_ (fun hw => ?_) (fun hw => ?_) <;> try omega | fail
      rintro o s ⟨rfl, rfl⟩
      repeat' first | simp (disch := omega) only [go_sem, hQr, hQn, hQp, wrapK_i64, wrapK_u8, wrapK_u64, Nat.reduceAdd, Nat.reduceBEq, ↓reduceIte, h1', List.set_set] | refine go_ ?_ | refine br_ (fun hw => ?_) (fun hw => ?_) <;> try omega | fail
      exact ⟨rfl, ⟨_, _, h1', .inr rfl, .inl ⟨rfl, rfl⟩⟩, beside _⟩
    | cons c t =>
      simp only [List.length_nil, List.length_cons] at hlen
      repeat' first | simp (disch := omega) only [go_sem, hQr, hQn, hQp, wrapK_i64, wrapK_u8, wrapK_u64, Nat.reduceAdd, Nat.reduceBEq, ↓reduceIte, h1'] | refine go_ ?_ | with_reducible refine callL_any hcc ?_ | refine br_ (fun hw => ?_) (fun hw => ?_) <;> try omega | fail
      rintro o s ⟨rfl, rfl⟩
      have h1'' : ∀ o, ((σ.set l (.cellsT (some T) [.ref l 0, .nils])) ++ [o])[l]? = some (.cellsT (some T) [.ref l 0, .nils]) := fun o => by
        rw [List.getElem?_append_left (by simpa using hl)]; exact h1'
      repeat' first | simp (disch := omega) only [go_sem, hQr, hQn, hQp, wrapK_i64, wrapK_u8, wrapK_u64, Nat.reduceAdd, Nat.reduceBEq, ↓reduceIte, h1', h1'', List.set_set] | refine go_ ?_ | refine br_ (fun hw => ?_) (fun hw => ?_) <;> try omega | fail
      rw [List.set_append_left _ _ (by simpa using hl), List.set_set]
      refine ⟨rfl, ⟨.ref l 0, .own E1 σ.length (t.length + 1) 0 (t.length + 1), ?_, .inr rfl, .inr ⟨by simp, σ.length, by omega, by simp, ?_⟩⟩, by simp, fun j o' hj hne _ => ?_⟩
      · rw [List.getElem?_append_left (by simpa using hl)]; simp [hl]
      · rw [List.getElem?_append_right (by simp)]; simp
      · rw [List.getElem?_append_left (by simpa using lt_of hj), List.getElem?_set_ne (Ne.symm hne)]; exact hj
  · have hk := lt_of h5
    have h5' : ∀ o, (σ.set l o)[k]? = some (.vecT (some TU) E1 (eBytes s)) := fun o => by rw [List.getElem?_set_ne (Ne.symm h4)]; exact h5
    repeat' first | simp (disch := omega) only [go_sem, hQr, hQn, hQp, wrapK_i64, wrapK_u8, wrapK_u64, Nat.reduceAdd, Nat.reduceBEq, ↓reduceIte, h1'] | refine go_ ?_ | with_reducible refine callL_any hcc ?_ | refine br_ (fun hw => ?_) (fun hw => ?_) <;> try omega | fail
    rintro o s' ⟨rfl, rfl⟩
    have h1'' : ∀ o, ((σ.set l (.cellsT (some T) [.ref l 0, .own E1 k s.length 0 s.length])).set k o)[l]? = some (.cellsT (some T) [.ref l 0, .own E1 k s.length 0 s.length]) := fun o => by
      rw [List.getElem?_set_ne h4]; exact h1'
    repeat' first | simp (disch := omega) only [go_sem, hQr, hQn, hQp, wrapK_i64, wrapK_u8, wrapK_u64, Nat.reduceAdd, Nat.reduceBEq, ↓reduceIte, h1', h1'', h5', List.set_set] | refine go_ ?_ | refine br_ (fun hw => ?_) (fun hw => ?_) <;> try omega | fail
    refine ⟨rfl, ⟨.ref l 0, .own E1 k (s.length + t.length) 0 (s.length + t.length), ?_, .inr rfl, .inr ⟨by simp [h3], k, h4, by simp, ?_⟩⟩, by simp, fun j o' hj hne hnv => ?_⟩
    · simp [hl]
    · rw [List.getElem?_set_ne (Ne.symm h4)]; simp [hk]
    · have hjk : j ≠ k := fun e => by subst e; rw [h5] at hj; cases hj; exact hnv _ _ rfl
      rw [List.getElem?_set_ne (Ne.symm hne), List.getElem?_set_ne (Ne.symm hjk), List.getElem?_set_ne (Ne.symm hne)]; exact hj
theorem Builder_String {T : TypeId} (σ : Store) (l : Nat) (s : Str) (h : Bld T σ l s) (hs : s.length ≤ 2 ^ 62) : CallA Tryz.prog n_strings_Builder_String [.ref l 0] σ fun o σ' => o = .ret (.str s) ∧ Beside l σ σ' := by
  obtain ⟨p, v, h1, h2, h3⟩ := h
  refine of_strings_Builder_String (by simp) ?_
  unfold b_strings_Builder_String WpR
  intro Q hQr hQn hQp
  rcases h3 with ⟨rfl, rfl⟩ | ⟨h3, k, h4, rfl, h5⟩
  · repeat' first | simp (disch := omega) only [go_sem, hQr, hQn, hQp, wrapK_i64, wrapK_u8, wrapK_u64, Nat.reduceAdd, Nat.reduceBEq, ↓reduceIte, h1] | refine go_ ?_ | refine br_ (fun hw => ?_) (fun hw => ?_) <;> try omega | fail
    exact ⟨rfl, .refl _ _⟩
  · have h0 : 0 < s.length := List.length_pos_iff.2 h3
    repeat' first | simp (disch := omega) only [go_sem, hQr, hQn, hQp, wrapK_i64, wrapK_u8, wrapK_u64, Nat.reduceAdd, Nat.reduceBEq, ↓reduceIte, h1] | refine go_ ?_ | refine usd_i h5 (by simp) h0 ?_ | refine ustr_i s h5 (by simp) rfl h3 hs rfl ?_ | refine br_ (fun hw => ?_) (fun hw => ?_) <;> try omega | fail
    refine ⟨rfl, by simp, fun j o' hj hne hnv => ?_⟩
    have hjk : j ≠ k := fun e => by subst e; rw [h5] at hj; cases hj; exact hnv _ _ rfl
    rw [List.getElem?_set_ne (Ne.symm hjk)]; exact hj
theorem Bld.push {T : TypeId} {σ : Store} {l : Nat} {s : Str} (h : Bld T σ l s) (ρ : Store) : Bld T (σ ++ ρ) l s := by
  obtain ⟨p, v, h1, h2, h3⟩ := h
  refine ⟨p, v, by rw [List.getElem?_append_left (lt_of h1)]; exact h1, h2, ?_⟩
  rcases h3 with h3 | ⟨h3, k, h4, h5, h6⟩
  · exact .inl h3
  · exact .inr ⟨h3, k, h4, h5, by rw [List.getElem?_append_left (lt_of h6)]; exact h6⟩
theorem Bld.lt {T : TypeId} {σ : Store} {l : Nat} {s : Str} (h : Bld T σ l s) : l < σ.length := by
  obtain ⟨p, v, h1, _⟩ := h; exact lt_of h1
theorem Bld.set_iter {T : TypeId} {σ : Store} {l q : Nat} {s u : Str} {i : Nat} (h : Bld T σ l s) (hq : σ[q]? = some (.siter u i)) (o : AObj) : Bld T (σ.set q o) l s := by
  obtain ⟨p, v, h1, h2, h3⟩ := h
  have n1 : q ≠ l := fun e => by subst e; rw [hq] at h1; cases h1
  refine ⟨p, v, by rw [List.getElem?_set_ne n1]; exact h1, h2, ?_⟩
  rcases h3 with h3 | ⟨h3, k, h4, h5, h6⟩
  · exact .inl h3
  · have n2 : q ≠ k := fun e => by subst e; rw [hq] at h6; cases h6
    exact .inr ⟨h3, k, h4, h5, by rw [List.getElem?_set_ne n2]; exact h6⟩
theorem Beside.trans {l : Nat} {σ1 σ2 σ3 : Store} (h : Beside l σ1 σ2) (k : Beside l σ2 σ3) : Beside l σ1 σ3 :=
  ⟨Nat.le_trans h.1 k.1, fun j o h1 h2 h3 => k.2 j o (h.2 j o h1 h2 h3) h2 h3⟩
theorem Beside.of_push {l : Nat} {σ ρ σ2 : Store} (h : Beside l (σ ++ ρ) σ2) : Beside l σ σ2 :=
  ⟨Nat.le_trans (by simp) h.1, fun j o h1 h2 h3 => h.2 j o (by rw [List.getElem?_append_left (lt_of h1)]; exact h1) h2 h3⟩
theorem wrapK_u32 {n : Int} (h : 0 ≤ n) (h' : n ≤ 4294967295) : wrapK .u32 n = n := by
  show IntKind.wrap .u32 n = n
  simp [IntKind.wrap, IntKind.bits, IntKind.signed]; omega
theorem Builder_WriteByte {T : TypeId} (hT : Lies T) (σ : Store) (l : Nat) (s : Str) (c : UInt8) (k : Int) (hk : k = c.toNat) (h : Bld T σ l s) (hlen : s.length ≤ 2 ^ 38) :
    CallA Tryz.prog n_strings_Builder_WriteByte [.ref l 0, .int .u8 k] σ fun o σ' => o = .ret .nili ∧ Bld T σ' l (s ++ [c]) ∧ Beside l σ σ' := by
  subst hk
  obtain ⟨p, v, h1, h2, h3⟩ := h
  have hl := lt_of h1
  refine of_strings_Builder_WriteByte (by simp) ?_
  unfold b_strings_Builder_WriteByte WpR
  intro Q hQr hQn hQp
  have hcc := Builder_copyCheck hT σ l p v h1 h2
  have h1' : (σ.set l (.cellsT (some T) [.ref l 0, v]))[l]? = some (.cellsT (some T) [.ref l 0, v]) := by simp [hl]
  rcases h3 with ⟨rfl, rfl⟩ | ⟨h3, k, h4, rfl, h5⟩
  · repeat' first | simp (disch := omega) only [go_sem, hQr, hQn, hQp, wrapK_i64, wrapK_u8, wrapK_u64, Nat.reduceAdd, Nat.reduceBEq, ↓reduceIte, h1'] | refine go_ ?_ | with_reducible refine callL_any hcc ?_ | refine br_ (fun hw => ?_) (fun hw => ?_) <;> try omega | fail
    rintro o s' ⟨rfl, rfl⟩
    have h1'' : ∀ o, ((σ.set l (.cellsT (some T) [.ref l 0, .nils])) ++ [o])[l]? = some (.cellsT (some T) [.ref l 0, .nils]) := fun o => by
      rw [List.getElem?_append_left (by simpa using hl)]; exact h1'
    repeat' first | simp (disch := omega) only [go_sem, hQr, hQn, hQp, wrapK_i64, wrapK_u8, wrapK_u64, Nat.reduceAdd, Nat.reduceBEq, ↓reduceIte, h1', h1'', List.set_set] | refine go_ ?_ | refine br_ (fun hw => ?_) (fun hw => ?_) <;> try omega | fail
    rw [List.set_append_left _ _ (by simpa using hl), List.set_set]
    refine ⟨rfl, ⟨.ref l 0, .own E1 σ.length 1 0 1, ?_, .inr rfl, .inr ⟨by simp, σ.length, by omega, by simp, ?_⟩⟩, by simp, fun j o' hj hne _ => ?_⟩
    · rw [List.getElem?_append_left (by simpa using hl)]; simp [hl]
    · rw [List.getElem?_append_right (by simp)]; simp
    · rw [List.getElem?_append_left (by simpa using lt_of hj), List.getElem?_set_ne (Ne.symm hne)]; exact hj
  · have hk := lt_of h5
    have h5' : ∀ o, (σ.set l o)[k]? = some (.vecT (some TU) E1 (eBytes s)) := fun o => by rw [List.getElem?_set_ne (Ne.symm h4)]; exact h5
    repeat' first | simp (disch := omega) only [go_sem, hQr, hQn, hQp, wrapK_i64, wrapK_u8, wrapK_u64, Nat.reduceAdd, Nat.reduceBEq, ↓reduceIte, h1'] | refine go_ ?_ | with_reducible refine callL_any hcc ?_ | refine br_ (fun hw => ?_) (fun hw => ?_) <;> try omega | fail
    rintro o s' ⟨rfl, rfl⟩
    have h1'' : ∀ o, ((σ.set l (.cellsT (some T) [.ref l 0, .own E1 k s.length 0 s.length])).set k o)[l]? = some (.cellsT (some T) [.ref l 0, .own E1 k s.length 0 s.length]) := fun o => by
      rw [List.getElem?_set_ne h4]; exact h1'
    repeat' first | simp (disch := omega) only [go_sem, hQr, hQn, hQp, wrapK_i64, wrapK_u8, wrapK_u64, Nat.reduceAdd, Nat.reduceBEq, ↓reduceIte, h1', h1'', h5', List.set_set] | refine go_ ?_ | refine br_ (fun hw => ?_) (fun hw => ?_) <;> try omega | fail
    refine ⟨rfl, ⟨.ref l 0, .own E1 k (s.length + 1) 0 (s.length + 1), ?_, .inr rfl, .inr ⟨by simp, k, h4, by simp, ?_⟩⟩, by simp, fun j o' hj hne hnv => ?_⟩
    · simp [hl]
    · rw [List.getElem?_set_ne (Ne.symm h4)]; simp [hk]
    · have hjk : j ≠ k := fun e => by subst e; rw [h5] at hj; cases hj; exact hnv _ _ rfl
      rw [List.getElem?_set_ne (Ne.symm hne), List.getElem?_set_ne (Ne.symm hjk), List.getElem?_set_ne (Ne.symm hne)]; exact hj
theorem AppendRune_own (σ : Store) (k : Nat) (s : Str) (c : UInt8) (hc : c.toNat < 128) (h : σ[k]? = some (.vecT (some TU) E1 (eBytes s))) (hlen : s.length ≤ 2 ^ 38) :
    CallA Tryz.prog n_unicode_utf8_AppendRune [.own E1 k s.length 0 s.length, .int .i32 c.toNat] σ fun o σ' => o = .ret (.own E1 k (s.length + 1) 0 (s.length + 1)) ∧ σ' = σ.set k (.vecT (some TU) E1 (eBytes (s ++ [c]))) := by
  refine of_unicode_utf8_AppendRune (by simp) ?_
  unfold b_unicode_utf8_AppendRune WpR
  intro Q hQr hQn hQp
  repeat' first | simp (disch := omega) only [go_sem, hQr, hQn, hQp, wrapK_i64, wrapK_u8, wrapK_u64, Nat.reduceAdd, Nat.reduceBEq, ↓reduceIte, h, wrapK_u32] | refine go_ ?_ | refine br_ (fun hw => ?_) (fun hw => ?_) <;> try omega | fail
  all_goals first | (refine ⟨rfl, ?_⟩; simp; done) | exact ab_
theorem Builder_WriteRune {T : TypeId} (hT : Lies T) (σ : Store) (l : Nat) (s : Str) (c : UInt8) (hc : c.toNat < 128) (h : Bld T σ l s) (hs : s ≠ []) (hlen : s.length ≤ 2 ^ 38) :
    CallA Tryz.prog n_strings_Builder_WriteRune [.ref l 0, .int .i32 c.toNat] σ fun o σ' => (∃ r, o = .ret r) ∧ Bld T σ' l (s ++ [c]) ∧ Beside l σ σ' := by
  obtain ⟨p, v, h1, h2, h3⟩ := h
  have hl := lt_of h1
  refine of_strings_Builder_WriteRune (by simp) ?_
  unfold b_strings_Builder_WriteRune WpR
  intro Q hQr hQn hQp
  have hcc := Builder_copyCheck hT σ l p v h1 h2
  have h1' : (σ.set l (.cellsT (some T) [.ref l 0, v]))[l]? = some (.cellsT (some T) [.ref l 0, v]) := by simp [hl]
  rcases h3 with ⟨rfl, rfl⟩ | ⟨h3, k, h4, rfl, h5⟩
  · exact absurd rfl hs
  · have hk := lt_of h5
    have h5' : ∀ o, (σ.set l o)[k]? = some (.vecT (some TU) E1 (eBytes s)) := fun o => by rw [List.getElem?_set_ne (Ne.symm h4)]; exact h5
    repeat' first | simp (disch := omega) only [go_sem, hQr, hQn, hQp, wrapK_i64, wrapK_u8, wrapK_u64, Nat.reduceAdd, Nat.reduceBEq, ↓reduceIte, h1'] | refine go_ ?_ | with_reducible refine callL_any hcc ?_ | refine br_ (fun hw => ?_) (fun hw => ?_) <;> try omega | fail
    rintro o s' ⟨rfl, rfl⟩
    repeat' first | simp (disch := omega) only [go_sem, hQr, hQn, hQp, wrapK_i64, wrapK_u8, wrapK_u64, Nat.reduceAdd, Nat.reduceBEq, ↓reduceIte, h1'] | refine go_ ?_ | with_reducible refine callL_any (AppendRune_own _ k s c hc (h5' _) hlen) ?_ | refine br_ (fun hw => ?_) (fun hw => ?_) <;> try omega | fail
    rintro o s' ⟨rfl, rfl⟩
    have h1'' : ∀ o, ((σ.set l (.cellsT (some T) [.ref l 0, .own E1 k s.length 0 s.length])).set k o)[l]? = some (.cellsT (some T) [.ref l 0, .own E1 k s.length 0 s.length]) := fun o => by
      rw [List.getElem?_set_ne h4]; exact h1'
    have h1a : ∀ o o', (((σ.set l (.cellsT (some T) [.ref l 0, .own E1 k s.length 0 s.length])).set k o).set l o')[l]? = some o' := fun o o' => by
      rw [List.getElem?_set_self (by simpa using hl)]
    repeat' first | simp (disch := omega) only [go_sem, hQr, hQn, hQp, wrapK_i64, wrapK_u8, wrapK_u64, Nat.reduceAdd, Nat.reduceBEq, ↓reduceIte, h1', h1'', h1a, h5', List.set_set] | refine go_ ?_ | refine br_ (fun hw => ?_) (fun hw => ?_) <;> try omega | fail
    refine ⟨⟨_, rfl⟩, ⟨.ref l 0, .own E1 k (s.length + 1) 0 (s.length + 1), ?_, .inr rfl, .inr ⟨by simp, k, h4, by simp, ?_⟩⟩, by simp, fun j o' hj hne hnv => ?_⟩
    · simp [hl]
    · rw [List.getElem?_set_ne (Ne.symm h4)]; simp [hk]
    · have hjk : j ≠ k := fun e => by subst e; rw [h5] at hj; cases hj; exact hnv _ _ rfl
      rw [List.getElem?_set_ne (Ne.symm hne), List.getElem?_set_ne (Ne.symm hjk), List.getElem?_set_ne (Ne.symm hne)]; exact hj
set_option maxHeartbeats 1000000 in
theorem value_quote (s : Str) (ha : ∀ i, i < s.length → (s.getD i 0).toNat < 128) (hs : s.length ≤ 2 ^ 36) : CallF Tryz.prog n_value_quote [.str s] (.str (quoteS s)) := by
  refine CallF.of_nil (of_value_quote (by simp) ?_) rfl
  unfold b_value_quote WpR
  intro Q hQr hQn hQp
  have hb0 : Bld TB [.cellsT (some TB) [.nilp, .nils]] 0 [] := ⟨_, _, rfl, .inl rfl, .inl ⟨rfl, rfl⟩⟩
  repeat' first | refine go_ ?_ | with_reducible refine callL_any (Builder_WriteByte lies_TB _ 0 _ 34 34 rfl hb0 (by simp)) ?_ | refine br_ (fun hw => ?_) (fun hw => ?_) <;> try omega | fail
  rintro o σ ⟨rfl, hb1, _⟩
  repeat' first | refine go_ ?_ | refine br_ (fun hw => ?_) (fun hw => ?_) <;> try omega | fail
  generalize hq : σ.length = q at *
  with_reducible refine loop_i [5, 9, 10, 11, 12, 13, 14, 15, 16, 17, 18, 19] (fun x : Nat × Store => []) (fun x => x.2) (fun x => x.1 ≤ s.length ∧ Bld TB x.2 0 (34 :: (s.take x.1).flatMap quoteB) ∧ x.2[q]? = some (.siter s x.1)) (fun x => s.length - x.1) (0, σ ++ [.siter s 0]) ?_ ?_ ?_ ?_
  · exact ⟨Nat.zero_le _, by simpa using hb1.push _, by rw [← hq]; simp⟩
  · rfl
  · exact at_
  clear hb1 hb0 hq
  rintro ⟨i, σ⟩ r ⟨h1, h2, h3⟩
  dsimp only at h1 h2 h3
  have hql := quote_len (s.take i)
  rw [List.length_take] at hql
  have hq2 : (34 :: (s.take i).flatMap quoteB).length ≤ 2 ^ 37 + 1 := by rw [List.length_cons]; omega
  by_cases hi : i < s.length
  · have hai := ha i hi
    have ht := quote_take hi
    have hb := h2.set_iter h3 (.siter s (i + 1))
    have hne : (34 :: (s.take i).flatMap quoteB : Str) ≠ [] := by simp
    have h3' : (σ.set q (.siter s (i + 1)))[q]? = some (.siter s (i + 1)) := by rw [List.getElem?_set_self (lt_of h3)]
    have hq0 : q ≠ 0 := fun e => by
      obtain ⟨p, v, k1, _⟩ := h2
      rw [e, k1] at h3; cases h3
    generalize (s.take i).flatMap quoteB = acc at *
    by_cases hc : (s.getD i 0).toNat = 34 ∨ (s.getD i 0).toNat = 92
    · rw [quoteB, if_pos hc] at ht
      repeat' first | simp (disch := omega) only [go_sem, hQr, hQn, hQp, wrapK_i64, wrapK_u8, wrapK_u64, Nat.reduceAdd, Nat.reduceBEq, ↓reduceIte, h3] | refine go_ ?_ | with_reducible refine callL_any (Builder_WriteByte lies_TB _ 0 _ 92 92 rfl hb (by omega)) ?_ | refine br_ (fun hw => ?_) (fun hw => ?_) <;> try omega | fail
      all_goals first
        | (rintro o σ1 ⟨rfl, hb1, hbs⟩
           have h3a := hbs.2 q _ h3' hq0 (fun _ _ => by simp)
           repeat' first | refine go_ ?_ | with_reducible refine callL_any (Builder_WriteRune lies_TB _ 0 _ (s.getD i 0) hai hb1 (by simp) (by simp only [List.length_append, List.length_cons, List.length_nil]; omega)) ?_ | refine br_ (fun hw => ?_) (fun hw => ?_) <;> try omega | fail
           rintro o σ2 ⟨⟨rr, rfl⟩, hb2, hbs2⟩
           repeat' first | refine go_ ?_ | refine br_ (fun hw => ?_) (fun hw => ?_) <;> try omega | fail
           refine ⟨(i + 1, σ2), ⟨?_, ?_, ?_⟩, ?_, rfl, ou_, at_⟩
           · dsimp only; omega
           · dsimp only; rw [ht]; simpa using hb2
           · exact hbs2.2 q _ h3a hq0 (fun _ _ => by simp)
           · dsimp only; omega)
        | exact ab_
    · rw [quoteB, if_neg hc] at ht
      repeat' first | simp (disch := omega) only [go_sem, hQr, hQn, hQp, wrapK_i64, wrapK_u8, wrapK_u64, Nat.reduceAdd, Nat.reduceBEq, ↓reduceIte, h3] | refine go_ ?_ | with_reducible refine callL_any (Builder_WriteRune lies_TB _ 0 _ (s.getD i 0) hai hb hne (by omega)) ?_ | refine br_ (fun hw => ?_) (fun hw => ?_) <;> try omega | fail
      all_goals first
        | (rintro o σ2 ⟨⟨rr, rfl⟩, hb2, hbs2⟩
           repeat' first | refine go_ ?_ | refine br_ (fun hw => ?_) (fun hw => ?_) <;> try omega | fail
           refine ⟨(i + 1, σ2), ⟨?_, ?_, ?_⟩, ?_, rfl, ou_, at_⟩
           · dsimp only; omega
           · dsimp only; rw [ht]; simpa using hb2
           · exact hbs2.2 q _ h3' hq0 (fun _ _ => by simp)
           · dsimp only; omega)
        | exact ab_
  · have hil : i = s.length := by omega
    have hti : s.take i = s := List.take_of_length_le (by omega)
    rw [hti] at h2 hq2
    simp only [List.length_cons] at hq2
    repeat' first | simp (disch := omega) only [go_sem, hQr, hQn, hQp, wrapK_i64, wrapK_u8, wrapK_u64, Nat.reduceAdd, Nat.reduceBEq, ↓reduceIte, h3] | refine go_ ?_ | with_reducible refine callL_any (Builder_WriteByte lies_TB _ 0 _ 34 34 rfl h2 (by simp only [List.length_cons]; omega)) ?_ | refine br_ (fun hw => ?_) (fun hw => ?_) <;> try omega | fail
    rintro o σ1 ⟨rfl, hb1, _⟩
    repeat' first | refine go_ ?_ | with_reducible refine callL_any (Builder_String _ 0 _ hb1 (by simp only [List.length_append, List.length_cons, List.length_nil]; omega)) ?_ | refine br_ (fun hw => ?_) (fun hw => ?_) <;> try omega | fail
    rintro o σ2 ⟨rfl, _⟩
    repeat' first | refine go_ ?_ | refine br_ (fun hw => ?_) (fun hw => ?_) <;> try omega | fail
    refine leafE ?_ rfl
    simp [quoteS]
theorem plainS_ascii {s : Str} (h : plainS s = true) : ∀ i, i < s.length → (s.getD i 0).toNat < 128 := by
  intro i hi
  simp only [plainS, Bool.and_eq_true, List.all_eq_true] at h
  have := h.2 (s.getD i 0) (by rw [List.getD_eq_getElem?_getD, List.getElem?_eq_getElem hi]; exact List.getElem_mem hi)
  rw [printB_iff] at this
  omega
theorem value_Text (v : Val) (h0 : -9223372036854775808 ≤ v.n) (h1 : v.n ≤ 9223372036854775807) (hr : rightV v = true) : CallF Tryz.prog n_value_Text [eVal v] (.tup [.str (textV v), I 0]) := by
  obtain ⟨k, n, s⟩ := v
  dsimp only at h0 h1
  have c1 := value_Check k n s h0 h1
  rw [hr] at c1
  simp only [errB, if_true] at c1
  have c2 := strconv_Itoa n h0 h1
  have c3 : k = 2 → CallF Tryz.prog n_value_quote [.str s] (.str (quoteS s)) := fun hk => by
    unfold rightV at hr
    dsimp only at hr
    rw [if_neg (by omega), if_neg (by omega), if_pos hk] at hr
    simp only [Bool.and_eq_true] at hr
    have hp := hr.2
    refine value_quote s (plainS_ascii hp) ?_
    simp only [plainS, Bool.and_eq_true, decide_eq_true_eq] at hp
    omega
  have c4 := fun b => strconv_FormatBool b
  clear hr
  have hS : textV ⟨k, n, s⟩ = if k = 1 then Lib.itoa n else if k = 2 then quoteS s else if k = 3 then (if n = 1 then trueS else falseS) else nullS := rfl
  rw [hS]
  clear hS
  generalize Lib.itoa n = t1 at *
  generalize quoteS s = t2 at *
  simp only [eVal]
  by_cases k2 : k = 2
  · have c5 := c3 k2
    clear c3
    subst k2
    refine CallF.of_nil (of_value_Text (by simp) ?_) rfl
    unfold b_value_Text WpR
    intro Q hQr hQn hQp
    repeat' first | refine go_ ?_ | refine cf_ c1 ?_ | refine cf_ c5 ?_ | refine br_ (fun hw => ?_) (fun hw => ?_) <;> try omega | fail
    all_goals (refine leafNE ?_ rfl; simp)
  · clear c3
    refine CallF.of_nil (of_value_Text (by simp) ?_) rfl
    unfold b_value_Text WpR
    intro Q hQr hQn hQp
    repeat' first | refine go_ ?_ | refine cf_ c1 ?_ | refine cf_ c2 ?_ | refine cf_ (c4 _) ?_ | refine br_ (fun hw => ?_) (fun hw => ?_) <;> try omega | fail
    all_goals (refine leafNE ?_ rfl; simp_all [trueS, falseS, nullS])
abbrev TW : TypeId := 128
theorem lies_TW : Lies TW := by unfold Lies; kernel_rfl
theorem syntax_level (x : Expr) : CallF Tryz.prog n_syntax_level [eExpr x] (I (levelS x.op)) := by
  have hf := syntax_find x.op
  have hS : levelS x.op = if x.op = 16 then 0 else if x.op = 3 then 6 else if x.op = 1 ∨ x.op = 2 then 7 else (findB x.op).level := rfl
  rw [hS]
  clear hS
  simp only [eBin] at hf
  generalize findB x.op = b at *
  rw [eExpr_eq]
  refine CallF.of_nil (of_syntax_level (by simp) ?_) (by simp)
  unfold b_syntax_level WpR
  intro Q hQr hQn hQp
  repeat' first | refine go_ ?_ | refine cf_ hf ?_ | refine br_ (fun hw => ?_) (fun hw => ?_) <;> try omega | fail
  all_goals (refine leafE ?_ rfl; simp_all)
def PutOk (x : Expr) : Prop := ∀ (lv : Int) (σ : Store) (l : Nat) (s : Str), Bld TW σ l s → s.length + (wrS x lv).length ≤ 2 ^ 38 →
  CallA Tryz.prog n_syntax_writer_put [.ref l 0, .agg [I x.op, I x.v.kind, I x.v.n, .str x.v.s, .str x.s, .lst false EX (x.l.map eExpr)], I lv] σ fun o σ' => o = .ret (.tup []) ∧ Bld TW σ' l (s ++ wrS x lv) ∧ Beside l σ σ'
set_option maxHeartbeats 4000000 in
theorem syntax_put (x : Expr) : rightX x = true → okX x → PutOk x := by
  induction x using Expr.ind with
  | h op v s l ih =>
    intro hr hx
    have hlv0 := levelS_nonneg hr
    have hL := syntax_level (.mk op v s l)
    rw [eExpr_eq] at hL
    simp only [okX] at hx
    obtain ⟨hs, hvs, hv1, hv2, hl⟩ := hx
    have ihc : ∀ y ∈ l, rightX y = true → PutOk y := fun y hy hry => ih y hy hry (okL_mem hl hy)
    have stepA : ∀ (lv : Int) (σ : Store) (k : Nat) (t : Str), ¬ levelS op < lv → Bld TW σ k t → t.length + (writeX (.mk op v s l)).length ≤ 2 ^ 38 →
        CallA Tryz.prog n_syntax_writer_put [.ref k 0, .agg [I op, I v.kind, I v.n, .str v.s, .str s, .lst false EX (l.map eExpr)], I lv] σ fun o σ' => o = .ret (.tup []) ∧ Bld TW σ' k (t ++ writeX (.mk op v s l)) ∧ Beside k σ σ' := by
      intro lv σ k t hlv hb hlen
      have hkl := hb.lt
      have hb1 := fun o : AObj => hb.push [o]
      have hgo : ∀ {σ' : Store} {o : AObj}, Beside k (σ ++ [o]) σ' → (∀ T xs, o ≠ .vecT (some T) E1 xs) → σ'[σ.length]? = some o := fun hbs hnv => hbs.2 σ.length _ (by simp) (by omega) hnv
      have hL2 := hL
      simp only [Expr.op_mk, Expr.v_mk, Expr.s_mk, Expr.l_mk] at hL2
      rcases right_parts hr with ⟨rfl, rfl, rfl, h1, _⟩ | ⟨rfl, rfl, rfl, h1⟩ | ⟨rfl, rfl, rfl, a, rfl, ha⟩ | ⟨rfl, rfl, rfl, a, b, c, rfl, ha, hb', hc⟩ | ⟨o1, o2, rfl, rfl, lv1, lv5, hlev, _, _, a, b, rfl, ha, hb'⟩
      · have ht := value_Text v hv1 hv2 h1
        have hW : writeX (.mk 1 v [] []) = textV v := by simp [writeX, joinX]
        rw [hW] at hlen ⊢
        generalize textV v = tv at *
        generalize levelS 1 = lv1 at *
        simp only [eVal] at ht
        simp only [List.map_nil] at hL2 ⊢
        refine of_syntax_writer_put (by simp) ?_
        unfold b_syntax_writer_put WpR
        intro Q hQr hQn hQp
        repeat' first | refine go_ ?_ | refine cf_ hL2 ?_ | refine cf_ ht ?_ | with_reducible refine callL_any (Builder_WriteString lies_TW _ k t tv (hb1 _) (by omega)) ?_ | refine br_ (fun hw => ?_) (fun hw => ?_) <;> try omega | fail
        all_goals first
          | (rintro o σ1 ⟨rfl, hb2, hbs⟩
             repeat' first | refine go_ ?_ | refine br_ (fun hw => ?_) (fun hw => ?_) <;> try omega | fail
             exact ⟨rfl, hb2, hbs.of_push⟩)
          | exact ab_
      · have hW : writeX (.mk 2 v0 s []) = s := by simp [writeX, joinX]
        rw [hW] at hlen ⊢
        generalize levelS 2 = lv1 at *
        simp only [List.map_nil] at hL2 ⊢
        refine of_syntax_writer_put (by simp) ?_
        unfold b_syntax_writer_put WpR
        intro Q hQr hQn hQp
        repeat' first | refine go_ ?_ | refine cf_ hL2 ?_ | with_reducible refine callL_any (Builder_WriteString lies_TW _ k t s (hb1 _) (by omega)) ?_ | refine br_ (fun hw => ?_) (fun hw => ?_) <;> try omega | fail
        all_goals first
          | (rintro o σ1 ⟨rfl, hb2, hbs⟩
             repeat' first | refine go_ ?_ | refine br_ (fun hw => ?_) (fun hw => ?_) <;> try omega | fail
             exact ⟨rfl, hb2, hbs.of_push⟩)
          | exact ab_
      · have pa := ihc a (by simp) ha
        have hW : writeX (.mk 3 v0 [] [a]) = 45 :: wrS a 6 := by simp [writeX, writeL, joinX, wrS]
        rw [hW, List.length_cons] at hlen
        rw [hW]
        have pa := pa 6
        generalize wrS a 6 = t1 at *
        generalize levelS 3 = lv1 at *
        simp only [List.map_cons, List.map_nil, eExpr_eq a] at hL2 ⊢
        refine of_syntax_writer_put (by simp) ?_
        unfold b_syntax_writer_put WpR
        intro Q hQr hQn hQp
        repeat' first | refine go_ ?_ | refine cf_ hL2 ?_ | with_reducible refine callL_any (Builder_WriteByte lies_TW _ k t 45 45 rfl (hb1 _) (by omega)) ?_ | refine br_ (fun hw => ?_) (fun hw => ?_) <;> try omega | fail
        all_goals first
          | (rintro o σ1 ⟨rfl, hb2, hbs⟩
             have hx1 := hgo hbs (fun _ _ => by simp)
             repeat' first | simp (disch := omega) only [go_sem, hQr, hQn, hQp, wrapK_i64, wrapK_u8, wrapK_u64, Nat.reduceAdd, Nat.reduceBEq, ↓reduceIte, hx1] | refine go_ ?_ | with_reducible refine callL_any (pa _ k _ hb2 (by simp only [List.length_append, List.length_cons, List.length_nil]; omega)) ?_ | refine br_ (fun hw => ?_) (fun hw => ?_) <;> try omega | fail
             rintro o σ2 ⟨rfl, hb3, hbs2⟩
             repeat' first | refine go_ ?_ | refine br_ (fun hw => ?_) (fun hw => ?_) <;> try omega | fail
             exact ⟨rfl, by simpa using hb3, (hbs.trans hbs2).of_push⟩)
          | exact ab_
      · have pa := ihc a (by simp) ha 0
        have pb := ihc b (by simp) hb' 0
        have pc := ihc c (by simp) hc 0
        have hW : writeX (.mk 16 v0 [] [a, b, c]) = ifSp ++ wrS a 0 ++ thenSp ++ wrS b 0 ++ elseSp ++ wrS c 0 := by simp [writeX, writeL, joinX, wrS]
        rw [hW] at hlen ⊢
        simp only [List.length_append, ifSp, thenSp, elseSp, List.length_cons, List.length_nil] at hlen
        generalize wrS a 0 = t1 at *
        generalize wrS b 0 = t2 at *
        generalize wrS c 0 = t3 at *
        generalize levelS 16 = lv1 at *
        simp only [List.map_cons, List.map_nil, eExpr_eq a, eExpr_eq b, eExpr_eq c] at hL2 ⊢
        refine of_syntax_writer_put (by simp) ?_
        unfold b_syntax_writer_put WpR
        intro Q hQr hQn hQp
        repeat' first | refine go_ ?_ | refine cf_ hL2 ?_ | refine br_ (fun hw => ?_) (fun hw => ?_) <;> try omega | fail
        all_goals try (exfalso; omega)
        obtain ⟨C, hC⟩ : ∃ C, C = AObj.cells [I 16, I v0.kind, I v0.n, .str v0.s, .str [], .lst false EX [.agg [I a.op, I a.v.kind, I a.v.n, .str a.v.s, .str a.s, .lst false EX (a.l.map eExpr)], .agg [I b.op, I b.v.kind, I b.v.n, .str b.v.s, .str b.s, .lst false EX (b.l.map eExpr)], .agg [I c.op, I c.v.kind, I c.v.n, .str c.v.s, .str c.s, .lst false EX (c.l.map eExpr)]]] := ⟨_, rfl⟩
        have hCn : ∀ T xs, C ≠ .vecT (some T) E1 xs := by rw [hC]; intro T xs h; cases h
        with_reducible refine loop_i [8, 9, 98, 99, 100, 101, 102, 103, 104, 105, 106, 107, 108, 109, 110, 111, 112, 113, 114] (fun x : Int × Store => [(98, I x.1)]) (fun x => x.2) (fun x => (x.1 = 0 ∧ Bld TW x.2 k t ∨ x.1 = 1 ∧ Bld TW x.2 k (t ++ (ifSp ++ t1)) ∨ x.1 = 2 ∧ Bld TW x.2 k (t ++ (ifSp ++ t1 ++ thenSp ++ t2)) ∨ x.1 = 3 ∧ Bld TW x.2 k (t ++ (ifSp ++ t1 ++ thenSp ++ t2 ++ elseSp ++ t3))) ∧ Beside k σ x.2 ∧ x.2[σ.length]? = some C) (fun x => (3 - x.1).toNat) (0, σ ++ [C]) ?_ ?_ ?_ ?_
        · exact ⟨.inl ⟨rfl, hb.push _⟩, (Beside.refl k (σ ++ [C])).of_push, by simp⟩
        · rw [hC]
        · exact at_
        rintro ⟨i, σ1⟩ r ⟨hi, hbs, hx1⟩
        dsimp only at hi hbs hx1
        have keep : ∀ {σ2 : Store}, Beside k σ1 σ2 → σ2[σ.length]? = some C := fun h => h.2 _ _ hx1 (by omega) hCn
        rcases hi with ⟨rfl, hbi⟩ | ⟨rfl, hbi⟩ | ⟨rfl, hbi⟩ | ⟨rfl, hbi⟩
        · repeat' first | simp (disch := omega) only [go_sem, hQr, hQn, hQp, wrapK_i64, wrapK_u8, wrapK_u64, Nat.reduceAdd, Nat.reduceBEq, ↓reduceIte, show (0 : Int).toNat = 0 from rfl] | refine go_ ?_ | with_reducible refine callL_any (Builder_WriteString lies_TW _ k _ _ hbi (by simp; omega)) ?_ | refine br_ (fun hw => ?_) (fun hw => ?_) <;> try omega | fail
          all_goals first
            | (rintro o σ2 ⟨rfl, hb2, hbs2⟩
               have hx2 := keep hbs2
               rw [hC] at hx2
               repeat' first | simp (disch := omega) only [go_sem, hQr, hQn, hQp, wrapK_i64, wrapK_u8, wrapK_u64, Nat.reduceAdd, Nat.reduceBEq, ↓reduceIte, hx2, show (0 : Int).toNat = 0 from rfl] | refine go_ ?_ | with_reducible refine callL_any (pa _ k _ hb2 (by simp [ifSp]; omega)) ?_ | refine br_ (fun hw => ?_) (fun hw => ?_) <;> try omega | fail
               rintro o σ3 ⟨rfl, hb3, hbs3⟩
               repeat' first | refine go_ ?_ | refine br_ (fun hw => ?_) (fun hw => ?_) <;> try omega | fail
               refine ⟨(1, σ3), ⟨.inr (.inl ⟨rfl, by simpa [ifSp] using hb3⟩), hbs.trans (hbs2.trans hbs3), keep (hbs2.trans hbs3)⟩, (by dsimp only; decide), rfl, ou_, at_⟩)
            | exact ab_
        · repeat' first | simp (disch := omega) only [go_sem, hQr, hQn, hQp, wrapK_i64, wrapK_u8, wrapK_u64, Nat.reduceAdd, Nat.reduceBEq, ↓reduceIte, Int.toNat_one] | refine go_ ?_ | with_reducible refine callL_any (Builder_WriteString lies_TW _ k _ _ hbi (by simp [ifSp]; omega)) ?_ | refine br_ (fun hw => ?_) (fun hw => ?_) <;> try omega | fail
          all_goals first
            | (rintro o σ2 ⟨rfl, hb2, hbs2⟩
               have hx2 := keep hbs2
               rw [hC] at hx2
               repeat' first | simp (disch := omega) only [go_sem, hQr, hQn, hQp, wrapK_i64, wrapK_u8, wrapK_u64, Nat.reduceAdd, Nat.reduceBEq, ↓reduceIte, hx2, Int.toNat_one] | refine go_ ?_ | with_reducible refine callL_any (pb _ k _ hb2 (by simp [ifSp, thenSp]; omega)) ?_ | refine br_ (fun hw => ?_) (fun hw => ?_) <;> try omega | fail
               rintro o σ3 ⟨rfl, hb3, hbs3⟩
               repeat' first | refine go_ ?_ | refine br_ (fun hw => ?_) (fun hw => ?_) <;> try omega | fail
               refine ⟨(2, σ3), ⟨.inr (.inr (.inl ⟨rfl, by simpa [ifSp, thenSp] using hb3⟩)), hbs.trans (hbs2.trans hbs3), keep (hbs2.trans hbs3)⟩, (by dsimp only; decide), rfl, ou_, at_⟩)
            | exact ab_
        · repeat' first | simp (disch := omega) only [go_sem, hQr, hQn, hQp, wrapK_i64, wrapK_u8, wrapK_u64, Nat.reduceAdd, Nat.reduceBEq, ↓reduceIte, show (2 : Int).toNat = 2 from rfl] | refine go_ ?_ | with_reducible refine callL_any (Builder_WriteString lies_TW _ k _ _ hbi (by simp [ifSp, thenSp]; omega)) ?_ | refine br_ (fun hw => ?_) (fun hw => ?_) <;> try omega | fail
          all_goals first
            | (rintro o σ2 ⟨rfl, hb2, hbs2⟩
               have hx2 := keep hbs2
               rw [hC] at hx2
               repeat' first | simp (disch := omega) only [go_sem, hQr, hQn, hQp, wrapK_i64, wrapK_u8, wrapK_u64, Nat.reduceAdd, Nat.reduceBEq, ↓reduceIte, hx2, show (2 : Int).toNat = 2 from rfl] | refine go_ ?_ | with_reducible refine callL_any (pc _ k _ hb2 (by simp [ifSp, thenSp, elseSp]; omega)) ?_ | refine br_ (fun hw => ?_) (fun hw => ?_) <;> try omega | fail
               rintro o σ3 ⟨rfl, hb3, hbs3⟩
               repeat' first | refine go_ ?_ | refine br_ (fun hw => ?_) (fun hw => ?_) <;> try omega | fail
               refine ⟨(3, σ3), ⟨.inr (.inr (.inr ⟨rfl, by simpa [ifSp, thenSp, elseSp] using hb3⟩)), hbs.trans (hbs2.trans hbs3), keep (hbs2.trans hbs3)⟩, (by dsimp only; decide), rfl, ou_, at_⟩)
            | exact ab_
        · repeat' first | refine go_ ?_ | refine br_ (fun hw => ?_) (fun hw => ?_) <;> try omega | fail
          all_goals first
            | exact ⟨rfl, hbi, hbs⟩
            | exact ab_
      · have pa := ihc a (by simp) ha
        have pb := ihc b (by simp) hb'
        have hf := syntax_find op
        have hsl := sign_len op
        have hW : writeX (.mk op v0 [] [a, b]) = wrS a (if (findB op).level = 3 then 4 else (findB op).level) ++ [32] ++ (findB op).sign ++ [32] ++ wrS b ((findB op).level + 1) := by
          simp only [writeX, writeL, joinX]
          rw [if_neg (by omega), if_neg (by omega), if_neg (by omega), if_neg (by omega)]
          rfl
        rw [hW] at hlen ⊢
        rw [hlev] at hL2 hlv
        clear hW hlev hlv0 hL
        have hg1 : ∀ {σ' : Store} {o o' : AObj}, Beside k (σ ++ [o] ++ [o']) σ' → (∀ T xs, o ≠ .vecT (some T) E1 xs) → σ'[σ.length]? = some o := fun hbs hnv => hbs.2 σ.length _ (by simp) (by omega) hnv
        have hg2 : ∀ {σ' : Store} {o o' : AObj}, Beside k (σ ++ [o] ++ [o']) σ' → (∀ T xs, o' ≠ .vecT (some T) E1 xs) → σ'[σ.length + 1]? = some o' := fun hbs hnv => hbs.2 (σ.length + 1) _ (by simp) (by omega) hnv
        simp only [List.length_append, List.length_cons, List.length_nil] at hlen
        simp only [eBin] at hf
        generalize hBB : findB op = B at *
        obtain ⟨bop, sg, lvl⟩ := B
        dsimp only at *
        simp only [List.map_cons, List.map_nil, eExpr_eq a, eExpr_eq b] at hL2 ⊢
        by_cases h3 : lvl = 3
        · subst h3
          simp only [if_true] at hlen ⊢
          have pa := pa 4
          have pb := pb (3 + 1)
          generalize wrS a 4 = t1 at *
          generalize wrS b (3 + 1) = t2 at *
          simp only [Int.reduceAdd] at pb
          refine of_syntax_writer_put (by simp) ?_
          unfold b_syntax_writer_put WpR
          intro Q hQr hQn hQp
          repeat' first | simp (disch := omega) only [go_sem, hQr, hQn, hQp, wrapK_i64, wrapK_u8, wrapK_u64, Nat.reduceAdd, Nat.reduceBEq, ↓reduceIte, Int.reduceAdd] | refine go_ ?_ | refine cf_ hL2 ?_ | refine cf_ hf ?_ | with_reducible refine callL_any (pa _ k t ((hb.push _).push _) (by omega)) ?_ | refine br_ (fun hw => ?_) (fun hw => ?_) <;> try omega | fail
          all_goals first
            | (rintro o σ1 ⟨rfl, hb2, hbs⟩
               have hx1 := hg1 hbs (fun _ _ => by simp)
               have hx2 := hg2 hbs (fun _ _ => by simp)
               repeat' first | simp (disch := omega) only [go_sem, hQr, hQn, hQp, wrapK_i64, wrapK_u8, wrapK_u64, Nat.reduceAdd, Nat.reduceBEq, ↓reduceIte, hx1, hx2] | refine go_ ?_ | with_reducible refine callL_any (Builder_WriteString lies_TW _ k _ _ hb2 (by simp only [List.length_append, List.length_cons, List.length_nil]; omega)) ?_ | refine br_ (fun hw => ?_) (fun hw => ?_) <;> try omega | fail
               rintro o σ2 ⟨rfl, hb3, hbs2⟩
               have hx1 := hbs2.2 _ _ hx1 (by omega) (fun _ _ => by simp)
               have hx2 := hbs2.2 _ _ hx2 (by omega) (fun _ _ => by simp)
               repeat' first | simp (disch := omega) only [go_sem, hQr, hQn, hQp, wrapK_i64, wrapK_u8, wrapK_u64, Nat.reduceAdd, Nat.reduceBEq, ↓reduceIte, hx1, hx2, Int.toNat_one, Int.reduceAdd] | refine go_ ?_ | with_reducible refine callL_any (pb _ k _ hb3 (by simp only [List.length_append, List.length_cons, List.length_nil]; omega)) ?_ | refine br_ (fun hw => ?_) (fun hw => ?_) <;> try omega | fail
               rintro o σ3 ⟨rfl, hb4, hbs3⟩
               repeat' first | refine go_ ?_ | refine br_ (fun hw => ?_) (fun hw => ?_) <;> try omega | fail
               exact ⟨rfl, by simpa using hb4, ((hbs.trans hbs2).trans hbs3).of_push.of_push⟩)
            | exact ab_
        · simp only [if_neg h3] at hlen ⊢
          have pa := pa lvl
          have pb := pb (lvl + 1)
          generalize wrS a lvl = t1 at *
          generalize wrS b (lvl + 1) = t2 at *
          refine of_syntax_writer_put (by simp) ?_
          unfold b_syntax_writer_put WpR
          intro Q hQr hQn hQp
          repeat' first | simp (disch := omega) only [go_sem, hQr, hQn, hQp, wrapK_i64, wrapK_u8, wrapK_u64, Nat.reduceAdd, Nat.reduceBEq, ↓reduceIte, Int.reduceAdd] | refine go_ ?_ | refine cf_ hL2 ?_ | refine cf_ hf ?_ | with_reducible refine callL_any (pa _ k t ((hb.push _).push _) (by omega)) ?_ | refine br_ (fun hw => ?_) (fun hw => ?_) <;> try omega | fail
          all_goals first
            | (rintro o σ1 ⟨rfl, hb2, hbs⟩
               have hx1 := hg1 hbs (fun _ _ => by simp)
               have hx2 := hg2 hbs (fun _ _ => by simp)
               repeat' first | simp (disch := omega) only [go_sem, hQr, hQn, hQp, wrapK_i64, wrapK_u8, wrapK_u64, Nat.reduceAdd, Nat.reduceBEq, ↓reduceIte, hx1, hx2] | refine go_ ?_ | with_reducible refine callL_any (Builder_WriteString lies_TW _ k _ _ hb2 (by simp only [List.length_append, List.length_cons, List.length_nil]; omega)) ?_ | refine br_ (fun hw => ?_) (fun hw => ?_) <;> try omega | fail
               rintro o σ2 ⟨rfl, hb3, hbs2⟩
               have hx1 := hbs2.2 _ _ hx1 (by omega) (fun _ _ => by simp)
               have hx2 := hbs2.2 _ _ hx2 (by omega) (fun _ _ => by simp)
               repeat' first | simp (disch := omega) only [go_sem, hQr, hQn, hQp, wrapK_i64, wrapK_u8, wrapK_u64, Nat.reduceAdd, Nat.reduceBEq, ↓reduceIte, hx1, hx2, Int.toNat_one, Int.reduceAdd] | refine go_ ?_ | with_reducible refine callL_any (pb _ k _ hb3 (by simp only [List.length_append, List.length_cons, List.length_nil]; omega)) ?_ | refine br_ (fun hw => ?_) (fun hw => ?_) <;> try omega | fail
               rintro o σ3 ⟨rfl, hb4, hbs3⟩
               repeat' first | refine go_ ?_ | refine br_ (fun hw => ?_) (fun hw => ?_) <;> try omega | fail
               exact ⟨rfl, by simpa using hb4, ((hbs.trans hbs2).trans hbs3).of_push.of_push⟩)
            | exact ab_
    intro lv σ k t hb hlen
    by_cases hlv : levelS op < lv
    · rw [wr_of_lt (x := .mk op v s l) hlv] at hlen ⊢
      rw [List.length_cons, List.length_append, List.length_cons, List.length_nil] at hlen
      have hkl := hb.lt
      have hgo : ∀ {σ' : Store} {o : AObj}, Beside k (σ ++ [o]) σ' → (∀ T xs, o ≠ .vecT (some T) E1 xs) → σ'[σ.length]? = some o := fun hbs hnv => hbs.2 σ.length _ (by simp) (by omega) hnv
      have sA := fun σ t h1 h2 => stepA 0 σ k t (by show ¬ levelS op < 0; have : 0 ≤ levelS op := hlv0; omega) h1 h2
      clear stepA
      generalize writeX (.mk op v s l) = w at *
      simp only [Expr.op_mk, Expr.v_mk, Expr.s_mk, Expr.l_mk] at hL ⊢
      generalize levelS op = lv1 at *
      refine of_syntax_writer_put (by simp) ?_
      unfold b_syntax_writer_put WpR
      intro Q hQr hQn hQp
      repeat' first | refine go_ ?_ | refine cf_ hL ?_ | with_reducible refine callL_any (Builder_WriteByte lies_TW _ k t 40 40 rfl (hb.push _) (by omega)) ?_ | refine br_ (fun hw => ?_) (fun hw => ?_) <;> try omega | fail
      all_goals first
        | (rintro o σ1 ⟨rfl, hb2, hbs⟩
           have hx1 := hgo hbs (fun _ _ => by simp)
           repeat' first | simp (disch := omega) only [go_sem, hQr, hQn, hQp, wrapK_i64, wrapK_u8, wrapK_u64, Nat.reduceAdd, Nat.reduceBEq, ↓reduceIte, hx1] | refine go_ ?_ | with_reducible refine callL_any (sA _ _ hb2 (by simp only [List.length_append, List.length_cons, List.length_nil]; omega)) ?_ | refine br_ (fun hw => ?_) (fun hw => ?_) <;> try omega | fail
           rintro o σ2 ⟨rfl, hb3, hbs2⟩
           repeat' first | refine go_ ?_ | with_reducible refine callL_any (Builder_WriteByte lies_TW _ k _ 41 41 rfl hb3 (by simp only [List.length_append, List.length_cons, List.length_nil]; omega)) ?_ | refine br_ (fun hw => ?_) (fun hw => ?_) <;> try omega | fail
           rintro o σ3 ⟨rfl, hb4, hbs3⟩
           repeat' first | refine go_ ?_ | refine br_ (fun hw => ?_) (fun hw => ?_) <;> try omega | fail
           exact ⟨rfl, by simpa using hb4, ((hbs.trans hbs2).trans hbs3).of_push⟩)
        | exact ab_
    · rw [wr_of_ge (x := .mk op v s l) hlv] at hlen ⊢
      exact stepA lv σ k t hlv hb hlen
theorem syntax_Text (x : Expr) (hx : okX x) (hz : szS x ≤ 2 ^ 30) : CallF Tryz.prog n_syntax_Text [eExpr x] (.tup [.str (textX x).1, I (textX x).2]) := by
  have h1 := syntax_right x hx (by omega)
  have h2 := syntax_Deep x (by omega)
  have h3 := fun hr => syntax_put x hr hx 0
  have hT : textX x = if rightX x = false then ([], 2) else if 12 < deepS x then ([], 12) else if bigX x = true then ([], 5) else (writeX x, 0) := rfl
  rw [hT]
  unfold bigX
  cases hr : rightX x with
  | false =>
    rw [if_pos rfl]
    rw [hr] at h1
    rw [eExpr_eq] at h1 ⊢
    refine CallF.of_nil (of_syntax_Text (by simp) ?_) (by simp)
    unfold b_syntax_Text WpR
    intro Q hQr hQn hQp
    repeat' first | refine go_ ?_ | refine cf_ h1 ?_ | refine br_ (fun hw => ?_) (fun hw => ?_) <;> try omega | fail
    all_goals exact leafNE rfl rfl
  | true =>
    have h3 := h3 hr
    rw [wrS_zero hr] at h3
    have hlen := writeX_len x hr hx
    rw [if_neg (by simp)]
    rw [hr] at h1
    generalize writeX x = t at *
    generalize deepS x = d at *
    rw [eExpr_eq] at h1 h2 ⊢
    have hb0 : ∀ C : AObj, Bld TW [C, .cellsT (some TW) [.nilp, .nils]] 1 [] := fun C => ⟨_, _, rfl, .inl rfl, .inl ⟨rfl, rfl⟩⟩
    refine CallF.of_nil (of_syntax_Text (by simp) ?_) (by simp)
    unfold b_syntax_Text WpR
    intro Q hQr hQn hQp
    by_cases hd : 12 < d
    · simp only [if_pos hd] at hQr hQn hQp
      repeat' first | refine go_ ?_ | refine cf_ h1 ?_ | refine cf_ h2 ?_ | refine br_ (fun hw => ?_) (fun hw => ?_) <;> try omega | fail
      all_goals first | exact leafNE rfl rfl | exact ab_
    · simp only [if_neg hd, decide_eq_true_eq] at hQr hQn hQp
      have hlen2 : t.length ≤ 2 ^ 38 := by omega
      repeat' first | refine go_ ?_ | refine cf_ h1 ?_ | refine cf_ h2 ?_ | with_reducible refine callL_any (h3 _ 1 [] (hb0 _) (by simpa using hlen2)) ?_ | refine br_ (fun hw => ?_) (fun hw => ?_) <;> try omega | fail
      all_goals first
        | (rintro o σ1 ⟨rfl, hb2, _⟩
           try rw [List.nil_append] at hb2
           repeat' first | refine go_ ?_ | with_reducible refine callL_any (Builder_Len _ 1 _ hb2) ?_ | refine br_ (fun hw => ?_) (fun hw => ?_) <;> try omega | fail
           rintro o s' ⟨rfl, rfl⟩
           by_cases hb : 200 < t.length
           · simp only [if_pos hb] at hQr hQn hQp
             repeat' first | refine go_ ?_ | refine br_ (fun hw => ?_) (fun hw => ?_) <;> try omega | fail
             all_goals first | exact leafNE rfl rfl | exact ab_
           · simp only [if_neg hb] at hQr hQn hQp
             repeat' first | refine go_ ?_ | with_reducible refine callL_any (Builder_String _ 1 _ hb2 (by omega)) ?_ | refine br_ (fun hw => ?_) (fun hw => ?_) <;> try omega | fail
             all_goals first
               | (rintro o σ2 ⟨rfl, _⟩
                  repeat' first | refine go_ ?_ | refine br_ (fun hw => ?_) (fun hw => ?_) <;> try omega | fail
                  exact leafNE rfl rfl)
               | exact ab_)
        | exact ab_
end Go.Proofs.YthkhdedadacakaaGreatDoor
