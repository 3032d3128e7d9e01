/- Equality of flat values. -/
import Derived.Test.YtkimohopfhgcjaaASnd6
import Derived.Laws.StructEq
namespace Go.AM
set_option linter.unusedSimpArgs false
set_option linter.unusedVariables false
set_option linter.unnecessarySimpa false
section
variable {P : Program} {g : Ghost} {w : World} {σ : Store} {K : AV → Store → Prop}

theorem kdEq_vals {k : Kd} {a b : AV} {r : Bool} (h : kdEq k a b = some r) {v u : Value} (hv : VR g w a v) (hu : VR g w b u) :
    (k = .b ∧ ∃ x y, v = .bool x ∧ u = .bool y ∧ r = (x == y)) ∨ (k = .i ∧ ∃ q x y, v = .int q x ∧ u = .int q y ∧ r = (x == y)) ∨
    (k = .s ∧ ∃ x y : List UInt8, v = .string ⟨x.toArray⟩ ∧ u = .string ⟨y.toArray⟩ ∧ r = (x == y)) := by
  cases k <;> cases hv <;> cases hu <;> simp only [kdEq] at h <;> (try cases h)
  case b.bool.bool.refl x y => exact .inl ⟨rfl, x, y, rfl, rfl, rfl⟩
  case i.int.int q x q' y =>
    split at h
    · rename_i e; subst e; cases h; exact .inr (.inl ⟨rfl, q, x, y, rfl, rfl, rfl⟩)
    · cases h
  case s.str.str.refl x y => exact .inr (.inr ⟨rfl, x, y, rfl, rfl, rfl⟩)

theorem kdsEq_append {k1 k2 : List Kd} {az bs : List AV} {r : Bool} (h : kdsEq (k1 ++ k2) az bs = some r) :
    ∃ r1 r2, kdsEq k1 (az.take k1.length) (bs.take k1.length) = some r1 ∧ kdsEq k2 (az.drop k1.length) (bs.drop k1.length) = some r2 ∧ r = (r1 && r2) := by
  induction k1 generalizing az bs r with
  | nil => exact ⟨true, r, by simp [kdsEq], by simpa using h, by simp⟩
  | cons k ks ih =>
    cases az with
    | nil => cases bs <;> simp [kdsEq] at h
    | cons a az =>
      cases bs with
      | nil => simp [kdsEq] at h
      | cons b bs =>
        simp only [List.cons_append, kdsEq] at h
        split at h
        · rename_i x y h1 h2
          cases h
          obtain ⟨r1, r2, i1, i2, rfl⟩ := ih h2
          exact ⟨x && r1, r2, by simp [kdsEq, h1, i1], by simpa using i2, by simp [Bool.and_assoc]⟩
        · cases h

theorem eqScalar {k : Kd} {a b : AV} {r : Bool} {t : TypeId} {d : TypeDesc} (hu : P.underlying t = some d) (hd : (d = .bool ∧ k = .b) ∨ ((∃ q, d = .int q) ∧ k = .i) ∨ (d = .string ∧ k = .s)) {v u : Value}
    (h : kdsEq [k] [a] [b] = some r) (hv : VR g w a v) (hv' : VR g w b u) (D : Nat) : (Op.equalIn (D + 1) t v u).run P w = .ok r w := by
  simp only [kdsEq] at h
  split at h
  · rename_i x y h1 h2
    cases h2
    cases h
    rcases kdEq_vals h1 hv hv' with ⟨rfl, x', y', rfl, rfl, rfl⟩ | ⟨rfl, q, x', y', rfl, rfl, rfl⟩ | ⟨rfl, x', y', rfl, rfl, rfl⟩
    · rcases hd with ⟨rfl, _⟩ | ⟨_, e⟩ | ⟨_, e⟩
      · simp [run_equalIn_bool' w D t x' y' hu]
      · cases e
      · cases e
    · rcases hd with ⟨_, e⟩ | ⟨⟨q', rfl⟩, _⟩ | ⟨_, e⟩
      · cases e
      · simp [run_equalIn_int w D t q q' x' y' hu]
      · cases e
    · rcases hd with ⟨_, e⟩ | ⟨_, e⟩ | ⟨rfl, _⟩
      · cases e
      · cases e
      · simp [run_equalIn_string w D t _ _ hu, baList]
  · cases h

theorem flat_run : ∀ (d : Nat) (t : TypeId) (ks : List Kd) (D : Nat) (xs ys : Array Value) (o : Nat) (az bs : List AV) (r : Bool), flatKinds P d t = some ks → d ≤ D →
    (∃ i, P.info? t = some i ∧ i.size = ks.length) → az.length = ks.length → bs.length = ks.length → o + ks.length ≤ xs.size → o + ks.length ≤ ys.size →
    (∀ i, i < ks.length → VR g w (az.getD i .undef) (xs.getD (o + i) Go.undef)) → (∀ i, i < ks.length → VR g w (bs.getD i .undef) (ys.getD (o + i) Go.undef)) → kdsEq ks az bs = some r →
    ∃ v u, (part t xs o).run P w = .ok v w ∧ (part t ys o).run P w = .ok u w ∧ (Op.equalIn D t v u).run P w = .ok r w := by
  intro d
  induction d with
  | zero => intro t ks D xs ys o az bs r h; cases h
  | succ d ih =>
    intro t ks D xs ys o az bs r h hD hinfo la lb hx hy ha hb hk
    obtain ⟨ti, hti, hsz⟩ := hinfo
    obtain ⟨D, rfl⟩ : ∃ D', D = D' + 1 := ⟨D - 1, by omega⟩
    have scal : ∀ (k : Kd) (dd : TypeDesc), P.underlying t = some dd → tyAg P t = some false → ks = [k] → ((dd = .bool ∧ k = .b) ∨ ((∃ q, dd = .int q) ∧ k = .i) ∨ (dd = .string ∧ k = .s)) →
        ∃ v u, (part t xs o).run P w = .ok v w ∧ (part t ys o).run P w = .ok u w ∧ (Op.equalIn (D + 1) t v u).run P w = .ok r w := by
      intro k dd hu hA hks hd
      subst hks
      simp only [List.length_singleton] at *
      match az, bs, la, lb with
      | [a], [b], _, _ =>
        have h1 : o < xs.size := by omega
        have h2 : o < ys.size := by omega
        refine ⟨xs.getD o Go.undef, ys.getD o Go.undef, by simp [part, run_isAgg' hA, h1], by simp [part, run_isAgg' hA, h2], ?_⟩
        exact eqScalar hu hd hk (by simpa using ha 0 (by omega)) (by simpa using hb 0 (by omega)) D
    simp only [flatKinds] at h
    split at h
    · rename_i hu; cases h; exact scal .b _ hu (by simp [tyAg, hu]) rfl (.inl ⟨rfl, rfl⟩)
    · rename_i q hu; cases h; exact scal .i _ hu (by simp [tyAg, hu]) rfl (.inr (.inl ⟨⟨q, rfl⟩, rfl⟩))
    · rename_i hu; cases h; exact scal .s _ hu (by simp [tyAg, hu]) rfl (.inr (.inr ⟨rfl, rfl⟩))
    · rename_i fs hu
      split at h
      · cases h
      · rename_i hst
        have hA : tyAg P t = some true := by simp [tyAg, hu]
        refine ⟨.agg (xs.extract o (o + ti.size)), .agg (ys.extract o (o + ti.size)), by simp [part, run_isAgg' hA, run_sizeOf' hti], by simp [part, run_isAgg' hA, run_sizeOf' hti], ?_⟩
        have hfo : P.fieldsOf t = fs := by simp [Program.fieldsOf, hu]
        rw [run_equalIn_struct w D t _ _ (by rw [hfo]; exact hu) (by simpa using hst), hfo]
        -- field by field
        have key : ∀ (l : List Field) (off : Nat) (ks : List Kd) (az bs : List AV) (r : Bool) (X Y : Array Value), fieldsKinds P (flatKinds P d) off l = some ks → az.length = ks.length → bs.length = ks.length →
            off + ks.length ≤ X.size → off + ks.length ≤ Y.size → (∀ i, i < ks.length → VR g w (az.getD i .undef) (X.getD (off + i) Go.undef)) → (∀ i, i < ks.length → VR g w (bs.getD i .undef) (Y.getD (off + i) Go.undef)) →
            kdsEq ks az bs = some r → (Op.eqFields D X Y l).run P w = .ok r w := by
          intro l
          induction l with
          | nil =>
            intro off ks az bs r X Y h la lb _ _ _ _ hk
            cases h
            cases az <;> cases bs <;> simp [kdsEq] at hk
            subst hk
            rfl
          | cons f fs ihl =>
            intro off ks az bs r X Y h la lb hx hy ha hb hk
            simp only [fieldsKinds] at h
            split at h
            · cases h
            · rename_i hne
              simp only [Bool.or_eq_true, beq_iff_eq, bne_iff_ne, not_or, Decidable.not_not] at hne
              obtain ⟨hn, rfl⟩ := hne
              split at h
              · rename_i k1 fi hk1 hfi
                split at h
                · rename_i hs1
                  simp only [Option.map_eq_some_iff] at h
                  obtain ⟨k2, hk2, rfl⟩ := h
                  simp only [List.length_append] at *
                  obtain ⟨r1, r2, e1, e2, rfl⟩ := kdsEq_append hk
                  obtain ⟨v, u, p1, p2, p3⟩ := ih f.type k1 D X Y f.offset (az.take k1.length) (bs.take k1.length) r1 hk1 (by omega) ⟨fi, hfi, by simpa using hs1⟩ (by simp; omega) (by simp; omega) (by omega) (by omega)
                    (fun i hi => by have := ha i (by omega); simpa [List.getElem?_take, hi] using this) (fun i hi => by have := hb i (by omega); simpa [List.getElem?_take, hi] using this) e1
                  have ih2 := ihl (f.offset + k1.length) k2 (az.drop k1.length) (bs.drop k1.length) r2 X Y hk2 (by simp; omega) (by simp; omega) (by omega) (by omega)
                    (fun i hi => by have := ha (k1.length + i) (by omega); simpa [Nat.add_assoc] using this) (fun i hi => by have := hb (k1.length + i) (by omega); simpa [Nat.add_assoc] using this) e2
                  simp only [Op.eqFields, if_pos (show f.name ≠ "_" from hn), Sem.run_bind, p1, p2, p3, Result.andThen_ok]
                  cases r1
                  · simp
                  · simpa using ih2
                · cases h
              · cases h
        refine key fs.toList 0 ks az bs r _ _ h la lb (by simp; omega) (by simp; omega) (fun i hi => ?_) (fun i hi => ?_) hk
        · have h3 : i < (xs.extract o (o + ti.size)).size := by simp; omega
          have h4 : o + i < xs.size := by omega
          have := ha i hi
          rw [← Array.getElem_eq_getD (h := h4)] at this
          rw [Nat.zero_add, ← Array.getElem_eq_getD (h := h3), Array.getElem_extract]
          exact this
        · have h3 : i < (ys.extract o (o + ti.size)).size := by simp; omega
          have h4 : o + i < ys.size := by omega
          have := hb i hi
          rw [← Array.getElem_eq_getD (h := h4)] at this
          rw [Nat.zero_add, ← Array.getElem_eq_getD (h := h3), Array.getElem_extract]
          exact this
    · cases h

end
end Go.AM
