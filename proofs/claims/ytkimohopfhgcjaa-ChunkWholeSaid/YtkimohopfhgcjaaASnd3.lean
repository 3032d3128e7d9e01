/- Stores. -/
import Derived.Test.YtkimohopfhgcjaaASnd2
namespace Go.AM
set_option linter.unusedSimpArgs false
set_option linter.unusedVariables false
set_option linter.unnecessarySimpa false
section
variable {P : Program} {g : Ghost} {w : World} {σ : Store} {K : AV → Store → Prop}

theorem add_plain (b o n : Nat) : (⟨b, o, none⟩ : Addr).add n = ⟨b, o + n, none⟩ := by
  unfold Addr.add; split
  · rename_i h; subst h; rfl
  · rfl

theorem run_storeCells {b o : Nat} : ∀ (us : List Value) (w : World) (vs : Array Value) (i : Nat), Row w b vs → o + i + us.length ≤ vs.size → (∀ u ∈ us, u.oneCell' = true) →
    (storeCells ⟨b, o, none⟩ us i).run P w = .ok () (setRow w b (o + i) us) := by
  intro us
  induction us with
  | nil => intro w vs i _ _ _; rfl
  | cons u us ih =>
    intro w vs i hr hl h1
    simp only [List.length_cons] at hl
    have hc := hr.cell (i := o + i) (by omega)
    obtain ⟨T, fz, _, hf⟩ := id hr
    simp only [storeCells, Sem.run_bind, add_plain]
    rw [run_store P w _ u .plain (h1 u (List.mem_cons_self ..)), hc]
    simp only [hf (o + i) (by omega), Bool.false_eq_true, if_false, Result.andThen_ok]
    rw [ih _ (vs.setIfInBounds (o + i) u) (i + 1) (hr.set (o + i) u) (by simp; omega) (fun x hx => h1 x (List.mem_cons_of_mem _ hx))]
    rfl

theorem length_setMany (cs : List AV) (i : Nat) (az : List AV) : (setMany cs i az).length = cs.length := by
  induction az generalizing cs i with
  | nil => rfl
  | cons a az ih => simp [setMany, ih]
theorem getD_setMany (cs : List AV) (i : Nat) (az : List AV) (hi : i + az.length ≤ cs.length) (j : Nat) :
    (setMany cs i az).getD j .undef = if i ≤ j ∧ j < i + az.length then az.getD (j - i) .undef else cs.getD j .undef := by
  induction az generalizing cs i with
  | nil => simp [setMany]; intro h1 h2; omega
  | cons a az ih =>
    simp only [List.length_cons] at hi
    rw [setMany, ih (cs.set i a) (i + 1) (by simp; omega)]
    by_cases h1 : i + 1 ≤ j ∧ j < i + 1 + az.length
    · rw [if_pos h1, if_pos (by simp only [List.length_cons]; omega)]
      obtain ⟨k, rfl⟩ : ∃ k, j = i + 1 + k := ⟨j - (i + 1), by omega⟩
      rw [show i + 1 + k - (i + 1) = k by omega, show i + 1 + k - i = k + 1 by omega]
      simp
    · rw [if_neg h1]
      by_cases h2 : j = i
      · subst h2
        rw [if_pos (by simp only [List.length_cons]; omega)]
        have hlt : j < cs.length := by omega
        simp [hlt]
      · rw [if_neg (by simp only [List.length_cons]; omega)]
        simp [List.getElem?_set_ne (Ne.symm h2)]
theorem all_setMany {cs : List AV} (h : cs.all AV.scalar = true) (i : Nat) {az : List AV} (ha : az.all AV.scalar = true) : (setMany cs i az).all AV.scalar = true := by
  induction az generalizing cs i with
  | nil => exact h
  | cons a az ih =>
    simp only [List.all_cons, Bool.and_eq_true] at ha
    refine ih ?_ (i + 1) ha.2
    rw [List.all_eq_true] at h ⊢
    intro x hx
    rcases List.mem_or_eq_of_mem_set hx with hx | rfl
    · exact h x hx
    · exact ha.1

theorem vals_oneCell {g : Ghost} {w : World} {a : AV} {v : Value} (h : VR g w a v) (hs : a.cells.all AV.scalar = true) : ∀ u ∈ v.cells.toList, u.oneCell' = true := by
  obtain ⟨h1, h2⟩ := cells_rel h hs
  intro u hu
  obtain ⟨i, hi, rfl⟩ := List.mem_iff_getElem.1 hu
  simp at hi
  have := (h2 i (by omega)).oneCell (scalar_get hs (by omega))
  simpa [hi] using this

theorem store_sound {t : TypeId} {i : TypeInfo} {p x : AV} {v u : Value} (hR : Rel g w σ) (hi : P.info? t = some i) (hv : VR g w p v) (hu : VR g w x u)
    (hK : storeA σ i.size p x fun σ' => K (.tup []) σ') :
    ∃ w' g' σ', (Instr.storeAt t v u).run P w = .ok () w' ∧ Rel g' w' σ' ∧ Evo σ g w σ' g' w' ∧ K (.tup []) σ' := by
  obtain ⟨hn, hs, hK⟩ := hK
  obtain ⟨c1, c2⟩ := cells_rel hu hs
  have h1 := vals_oneCell hu hs
  cases hv <;> simp only at hK
  case ref l off h =>
    obtain ⟨hl, A, rfl, hA'⟩ := h
    split at hK
    · rename_i T cs hcs
      obtain ⟨k1, k2⟩ := hK
      obtain ⟨o1, o2, b, vs, o3, o4, o5, o6, o7⟩ := hR.ok l _ hcs
      obtain ⟨a1, a2⟩ := hA' o1
      have hb : A.block = b := by rw [a1] at o3; cases o3; rfl
      have hrun := run_storeCells (P := P) (b := b) (o := off) u.cells.toList w vs 0 o4 (by simp; omega) h1
      obtain ⟨f1, f2, f3, f4, f5⟩ := setRow_facts w b (off + 0) u.cells.toList
      obtain ⟨r1, r2⟩ := hR.update (o' := .cellsT T (setMany cs off x.cells)) hcs rfl o3 f1 f2 f3 f4 f5
        (fun hm => ⟨o1, all_setMany o2 _ hs, b, _, o3, o4.setRow (off + 0) _, by rw [size_putRow, length_setMany]; exact o5, fun j hj => by
          rw [length_setMany] at hj
          rw [getD_setMany _ _ _ (by omega), getD_putRow _ _ _ (by simp; omega)]
          simp only [Array.length_toList, Nat.add_zero, ← c1]
          split
          · rename_i hh
            have := (c2 (j - off) (by omega)).mono hm
            simpa using this
          · exact (o6 j hj).mono hm, by
            cases T with
            | none => trivial
            | some T => rw [length_setMany]; exact (shape_setRow _ _ _ _ _).trans o7⟩)
      refine ⟨_, g, _, ?_, r1, r2, k2⟩
      rw [a2, hb]
      simp only [Instr.storeAt, Instr.sureAddr, Sem.run_bind, Sem.run_pure, Result.andThen_ok, storeVar, run_sizeOf' hi]
      have e1 : ¬ u.cells.size ≠ i.size := by omega
      simp only [if_neg e1, Sem.run_pure, Result.andThen_ok]
      simpa using hrun
    · exact hK.elim
  case vref el l m j off h =>
    obtain ⟨hl, hm, A, rfl, hA'⟩ := h
    split at hK
    · rename_i T el' xs hxs
      obtain ⟨rfl, rfl, k3, k4, k5, k6⟩ := hK
      obtain ⟨o1, o2, o3⟩ := hR.ok l _ hxs
      rcases o3 with ⟨rfl, _, _⟩ | ⟨b, vs, b1, b2, b3, b4, b5, b6⟩
      · exact absurd k3 (Nat.not_lt_zero _)
      · obtain ⟨a1, a2⟩ := hA' o1.symm
        have hb : A.block = b := by rw [a1] at b1; cases b1; rfl
        have hrow : j * el'.sz + el'.sz ≤ vs.size := by
          rw [b3]
          calc j * el'.sz + el'.sz = (j + 1) * el'.sz := by rw [Nat.succ_mul]
            _ ≤ g.cap l * el'.sz := Nat.mul_le_mul_right _ (by omega)
        have hrun := run_storeCells (P := P) (b := b) (o := j * el'.sz + off) u.cells.toList w vs 0 b2 (by simp; omega) h1
        obtain ⟨f1, f2, f3, f4, f5⟩ := setRow_facts w b (j * el'.sz + off + 0) u.cells.toList
        have hfit := o2 j k3
        -- the new element
        have hnew : (if el'.ag then AV.agg (setMany (xs.getD j .undef).cells off x.cells) else x).fits el' = true ∧
            ∀ c, c < el'.sz → (if el'.ag then AV.agg (setMany (xs.getD j .undef).cells off x.cells) else x).cell c = (if off ≤ c ∧ c < off + i.size then x.cells.getD (c - off) .undef else (xs.getD j .undef).cell c) := by
          cases hag : el'.ag with
          | true =>
            generalize hy : xs.getD j .undef = y at hfit
            cases y <;> simp only [AV.fits, hag, Bool.not_true, Bool.false_and, Bool.true_and, Bool.and_eq_true, beq_iff_eq, Bool.false_eq_true] at hfit
            case agg cs =>
              refine ⟨?_, fun c hc => ?_⟩
              · show (el'.ag && (setMany cs off x.cells).length == el'.sz && (setMany cs off x.cells).all AV.scalar) = true
                rw [hag, length_setMany, all_setMany hfit.2 off hs, hfit.1]
                simp
              · show (setMany cs off x.cells).getD c .undef = _
                rw [getD_setMany _ _ _ (by omega), hn]
                rfl
          | false =>
            have hx := k5 hag
            have hsz := fits_sz hfit hag
            have hx1 : x.cells = [x] ∧ ∀ c, x.cell c = x := by
              cases x <;> first
                | (simp [AV.fits, hag] at hx; done)
                | exact ⟨rfl, fun _ => rfl⟩
            have hn1 : i.size = 1 := by rw [← hn, hx1.1]; rfl
            refine ⟨by simpa using hx, fun c hc => ?_⟩
            have h0 : c = 0 ∧ off = 0 := by omega
            obtain ⟨rfl, rfl⟩ := h0
            rw [if_neg (by simp), hx1.2, if_pos (by omega), hx1.1]
            rfl
        obtain ⟨n1, n2⟩ := hnew
        generalize (if el'.ag then AV.agg (setMany (xs.getD j .undef).cells off x.cells) else x) = y at n1 n2 k6
        obtain ⟨r1, r2⟩ := hR.update (o' := .vecT T el' (xs.set j y)) hxs rfl b1 f1 f2 f3 f4 f5
          (fun hm => ⟨by simpa using o1, fun i' hi' => by
            simp only [List.length_set] at hi'
            by_cases e : i' = j
            · subst e; simpa [k3] using n1
            · have := o2 i' hi'
              simpa [List.getElem?_set_ne (Ne.symm e)] using this,
            .inr ⟨b, _, b1, b2.setRow _ _, by rw [size_putRow]; exact b3, by simpa using b4, fun i' c hi' hc => by
              simp only [List.length_set] at hi'
              rw [getD_putRow _ _ _ (by simp; omega)]
              simp only [Array.length_toList, Nat.add_zero, ← c1, hn]
              by_cases e : i' = j
              · subst e
                rw [show (xs.set i' y).getD i' .undef = y by simp [k3], n2 c hc]
                by_cases h2 : off ≤ c ∧ c < off + i.size
                · rw [if_pos h2, if_pos (by omega), show i' * el'.sz + c - (i' * el'.sz + off) = c - off by omega]
                  have := (c2 (c - off) (by omega)).mono hm
                  simpa using this
                · rw [if_neg h2, if_neg (by omega)]
                  exact (b5 i' c hi' hc).mono hm
              · rw [show (xs.set j y).getD i' .undef = xs.getD i' .undef by simp [List.getElem?_set_ne (Ne.symm e)]]
                have hne : ¬ (j * el'.sz + off ≤ i' * el'.sz + c ∧ i' * el'.sz + c < j * el'.sz + off + i.size) := by
                  rintro ⟨q1, q2⟩
                  rcases Nat.lt_or_gt_of_ne e with h2 | h2
                  · have : (i' + 1) * el'.sz ≤ j * el'.sz := Nat.mul_le_mul_right _ h2
                    rw [Nat.succ_mul] at this
                    omega
                  · have : (j + 1) * el'.sz ≤ i' * el'.sz := Nat.mul_le_mul_right _ h2
                    rw [Nat.succ_mul] at this
                    omega
                rw [if_neg hne]
                exact (b5 i' c hi' hc).mono hm, by
              cases T with
              | none => trivial
              | some T => rw [size_putRow]; exact (shape_setRow _ _ _ _ _).trans b6⟩⟩)
        refine ⟨_, g, _, ?_, r1, r2, k6⟩
        rw [a2, hb]
        simp only [Instr.storeAt, Instr.sureAddr, Sem.run_bind, Sem.run_pure, Result.andThen_ok, storeVar, run_sizeOf' hi]
        have e1 : ¬ u.cells.size ≠ i.size := by omega
        simp only [if_neg e1, Sem.run_pure, Result.andThen_ok]
        simpa using hrun
    · exact hK.elim

end
end Go.AM
