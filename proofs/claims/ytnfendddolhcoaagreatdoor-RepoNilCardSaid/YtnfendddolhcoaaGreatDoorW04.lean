/- Part of a proof: see Root. -/
import Derived.Test.YtnfendddolhcoaaGreatDoorW03
set_option linter.unnecessarySimpa false
set_option linter.unusedSectionVars false
set_option linter.unusedSimpArgs false
set_option linter.unusedVariables false
namespace Go.AM
section
variable {P : Program} {g : Ghost} {w : World} {σ : Store} {K : AV → Store → Prop}
theorem add_plain (b o n : Nat) : (⟨b, o, none⟩ : Addr).add n = ⟨b, o + n, none⟩ := by
  unfold Addr.add; split
  · rename_i h; subst h; rfl
  · rfl
theorem run_storeCells {b o : Nat} : ∀ (us : List Value) (w : World) (vs : Array Value) (i : Nat), Row w b vs → o + i + us.length ≤ vs.size → (∀ u ∈ us, u.oneCell' = true) →
    (storeCells ⟨b, o, none⟩ us i).run P w = .ok () (setRow w b (o + i) us) := by
  intro us
  induction us with
  | nil => intro w vs i _ _ _; rfl
  | cons u us ih =>
    intro w vs i hr hl h1
    simp only [List.length_cons] at hl
    have hc := hr.cell (i := o + i) (by omega)
    obtain ⟨T, fz, _, hf⟩ := id hr
    simp only [storeCells, Sem.run_bind, add_plain]
    rw [run_store P w _ u .plain (h1 u (List.mem_cons_self ..)), hc]
    simp only [hf (o + i) (by omega), Bool.false_eq_true, if_false, Result.andThen_ok]
    rw [ih _ (vs.setIfInBounds (o + i) u) (i + 1) (hr.set (o + i) u) (by simp; omega) (fun x hx => h1 x (List.mem_cons_of_mem _ hx))]
    rfl
theorem length_setMany (cs : List AV) (i : Nat) (az : List AV) : (setMany cs i az).length = cs.length := by
  induction az generalizing cs i with
  | nil => rfl
  | cons a az ih => simp [setMany, ih]
theorem getD_setMany (cs : List AV) (i : Nat) (az : List AV) (hi : i + az.length ≤ cs.length) (j : Nat) :
    (setMany cs i az).getD j .undef = if i ≤ j ∧ j < i + az.length then az.getD (j - i) .undef else cs.getD j .undef := by
  induction az generalizing cs i with
  | nil => simp [setMany]; intro h1 h2; omega
  | cons a az ih =>
    simp only [List.length_cons] at hi
    rw [setMany, ih (cs.set i a) (i + 1) (by simp; omega)]
    by_cases h1 : i + 1 ≤ j ∧ j < i + 1 + az.length
    · rw [if_pos h1, if_pos (by simp only [List.length_cons]; omega)]
      obtain ⟨k, rfl⟩ : ∃ k, j = i + 1 + k := ⟨j - (i + 1), by omega⟩
      rw [show i + 1 + k - (i + 1) = k by omega, show i + 1 + k - i = k + 1 by omega]
      simp
    · rw [if_neg h1]
      by_cases h2 : j = i
      · subst h2
        rw [if_pos (by simp only [List.length_cons]; omega)]
        have hlt : j < cs.length := by omega
        simp [hlt]
      · rw [if_neg (by simp only [List.length_cons]; omega)]
        simp [List.getElem?_set_ne (Ne.symm h2)]
theorem all_setMany {cs : List AV} (h : cs.all AV.scalar = true) (i : Nat) {az : List AV} (ha : az.all AV.scalar = true) : (setMany cs i az).all AV.scalar = true := by
  induction az generalizing cs i with
  | nil => exact h
  | cons a az ih =>
    simp only [List.all_cons, Bool.and_eq_true] at ha
    refine ih ?_ (i + 1) ha.2
    rw [List.all_eq_true] at h ⊢
    intro x hx
    rcases List.mem_or_eq_of_mem_set hx with hx | rfl
    · exact h x hx
    · exact ha.1
theorem vals_oneCell {g : Ghost} {w : World} {a : AV} {v : Value} (h : VR g w a v) (hs : a.cells.all AV.scalar = true) : ∀ u ∈ v.cells.toList, u.oneCell' = true := by
  obtain ⟨h1, h2⟩ := cells_rel h hs
  intro u hu
  obtain ⟨i, hi, rfl⟩ := List.mem_iff_getElem.1 hu
  simp at hi
  have := (h2 i (by omega)).oneCell (scalar_get hs (by omega))
  simpa [hi] using this
theorem store_cells {n : Nat} {p x : AV} {v : Value} {us : List Value} {Kσ : Store → Prop} (hR : Rel g w σ) (hv : VR g w p v) (c1 : x.cells.length = us.length)
    (c2 : ∀ i, i < x.cells.length → VR g w (x.cells.getD i .undef) (us.getD i Go.undef)) (h1 : ∀ u ∈ us, u.oneCell' = true)
    (hK : storeA σ n p x Kσ) :
    ∃ A w' g' σ', v = .pointer (some A) ∧ (storeCells A us).run P w = .ok () w' ∧ Rel g' w' σ' ∧ Evo σ g w σ' g' w' ∧ Kσ σ' := by
  obtain ⟨hn, hs, hK⟩ := hK
  cases hv <;> simp only at hK
  case ref l off h =>
    obtain ⟨hl, A, rfl, hA'⟩ := h
    split at hK
    · rename_i T cs hcs
      obtain ⟨k1, k2⟩ := hK
      obtain ⟨o1, o2, b, vs, o3, o4, o5, o6, o7⟩ := hR.ok l _ hcs
      obtain ⟨a1, a2⟩ := hA' o1
      have hb : A.block = b := by rw [a1] at o3; cases o3; rfl
      have hrun := run_storeCells (P := P) (b := b) (o := off) us w vs 0 o4 (by simp; omega) h1
      obtain ⟨f1, f2, f3, f4, f5⟩ := setRow_facts w b (off + 0) us
      obtain ⟨r1, r2⟩ := hR.update (o' := .cellsT T (setMany cs off x.cells)) hcs rfl o3 f1 f2 f3 f4 f5
        (fun hm => ⟨o1, all_setMany o2 _ hs, b, _, o3, o4.setRow (off + 0) _, by rw [size_putRow, length_setMany]; exact o5, fun j hj => by
          rw [length_setMany] at hj
          rw [getD_setMany _ _ _ (by omega), getD_putRow _ _ _ (by simp; omega)]
          simp only [Nat.add_zero, ← c1]
          split
          · rename_i hh
            have := (c2 (j - off) (by omega)).mono hm
            simpa using this
          · exact (o6 j hj).mono hm, by
            cases T with
            | none => trivial
            | some T => rw [length_setMany]; exact (shape_setRow _ _ _ _ _).trans o7⟩)
      refine ⟨A, _, g, _, rfl, ?_, r1, r2, k2⟩
      rw [a2, hb]
      simpa using hrun
    · exact hK.elim
  case vref el l m j off h =>
    obtain ⟨hl, hm, A, rfl, hA'⟩ := h
    split at hK
    · rename_i T el' xs hxs
      obtain ⟨rfl, rfl, k3, k4, k5, k6⟩ := hK
      obtain ⟨o1, o2, o3⟩ := hR.ok l _ hxs
      rcases o3 with ⟨rfl, _, _⟩ | ⟨b, vs, b1, b2, b3, b4, b5, b6⟩
      · exact absurd k3 (Nat.not_lt_zero _)
      · obtain ⟨a1, a2⟩ := hA' o1.symm
        have hb : A.block = b := by rw [a1] at b1; cases b1; rfl
        have hrow : g.off l + j * el'.sz + el'.sz ≤ vs.size := by
          rw [b3]
          have : j * el'.sz + el'.sz ≤ g.cap l * el'.sz := by rw [← Nat.succ_mul]; exact Nat.mul_le_mul_right _ (by omega)
          omega
        have hrun := run_storeCells (P := P) (b := b) (o := g.off l + j * el'.sz + off) us w vs 0 b2.1 (by simp; omega) h1
        obtain ⟨f1, f2, f3, f4, f5⟩ := setRow_facts w b (g.off l + j * el'.sz + off + 0) us
        have hfit := o2 j k3
        have hnew : (if el'.ag then AV.agg (setMany (xs.getD j .undef).cells off x.cells) else x).fits el' = true ∧
            ∀ c, c < el'.sz → (if el'.ag then AV.agg (setMany (xs.getD j .undef).cells off x.cells) else x).cell c = (if off ≤ c ∧ c < off + n then x.cells.getD (c - off) .undef else (xs.getD j .undef).cell c) := by
          cases hag : el'.ag with
          | true =>
            generalize hy : xs.getD j .undef = y at hfit
            cases y <;> simp only [AV.fits, hag, Bool.not_true, Bool.false_and, Bool.true_and, Bool.and_eq_true, beq_iff_eq, Bool.false_eq_true] at hfit
            case agg cs =>
              refine ⟨?_, fun c hc => ?_⟩
              · show (el'.ag && (setMany cs off x.cells).length == el'.sz && (setMany cs off x.cells).all AV.scalar) = true
                rw [hag, length_setMany, all_setMany hfit.2 off hs, hfit.1]
                simp
              · show (setMany cs off x.cells).getD c .undef = _
                rw [getD_setMany _ _ _ (by omega), hn]
                rfl
          | false =>
            have hx := k5 hag
            have hsz := fits_sz hfit hag
            have hx1 : x.cells = [x] ∧ ∀ c, x.cell c = x := by
              cases x <;> first
                | (simp [AV.fits, hag] at hx; done)
                | exact ⟨rfl, fun _ => rfl⟩
            have hn1 : n = 1 := by rw [← hn, hx1.1]; rfl
            refine ⟨by simpa using hx, fun c hc => ?_⟩
            have h0 : c = 0 ∧ off = 0 := by omega
            obtain ⟨rfl, rfl⟩ := h0
            rw [if_neg (by simp), hx1.2, if_pos (by omega), hx1.1]
            rfl
        obtain ⟨n1, n2⟩ := hnew
        generalize (if el'.ag then AV.agg (setMany (xs.getD j .undef).cells off x.cells) else x) = y at n1 n2 k6
        obtain ⟨r1, r2⟩ := hR.update (o' := .vecT T el' (xs.set j y)) hxs rfl b1 f1 f2 f3 f4 f5
          (fun hm => ⟨by simpa using o1, fun i' hi' => by
            simp only [List.length_set] at hi'
            by_cases e : i' = j
            · subst e; simpa [k3] using n1
            · have := o2 i' hi'
              simpa [List.getElem?_set_ne (Ne.symm e)] using this,
            .inr ⟨b, _, b1, b2.setRow _ _, by rw [size_putRow]; exact b3, by simpa using b4, fun i' c hi' hc => by
              simp only [List.length_set] at hi'
              rw [getD_putRow _ _ _ (by simp; omega)]
              simp only [Nat.add_zero, ← c1, hn]
              by_cases e : i' = j
              · subst e
                rw [show (xs.set i' y).getD i' .undef = y by simp [k3], n2 c hc]
                by_cases h2 : off ≤ c ∧ c < off + n
                · rw [if_pos h2, if_pos (by omega), show g.off l + i' * el'.sz + c - (g.off l + i' * el'.sz + off) = c - off by omega]
                  have := (c2 (c - off) (by omega)).mono hm
                  simpa using this
                · rw [if_neg h2, if_neg (by omega)]
                  exact (b5 i' c hi' hc).mono hm
              · rw [show (xs.set j y).getD i' .undef = xs.getD i' .undef by simp [List.getElem?_set_ne (Ne.symm e)]]
                have hne : ¬ (g.off l + j * el'.sz + off ≤ g.off l + i' * el'.sz + c ∧ g.off l + i' * el'.sz + c < g.off l + j * el'.sz + off + n) := by
                  rintro ⟨q1, q2⟩
                  rcases Nat.lt_or_gt_of_ne e with h2 | h2
                  · have : (i' + 1) * el'.sz ≤ j * el'.sz := Nat.mul_le_mul_right _ h2
                    rw [Nat.succ_mul] at this
                    omega
                  · have : (j + 1) * el'.sz ≤ i' * el'.sz := Nat.mul_le_mul_right _ h2
                    rw [Nat.succ_mul] at this
                    omega
                rw [if_neg hne]
                exact (b5 i' c hi' hc).mono hm, by
              cases T with
              | none => trivial
              | some T => rw [size_putRow]; exact ⟨(shape_setRow _ _ _ _ _).trans b6.1, b6.2⟩⟩⟩)
        refine ⟨A, _, g, _, rfl, ?_, r1, r2, k6⟩
        rw [a2, hb]
        simpa using hrun
    · exact hK.elim
theorem store_sound {t : TypeId} {i : TypeInfo} {p x : AV} {v u : Value} (hR : Rel g w σ) (hi : P.info? t = some i) (hv : VR g w p v) (hu : VR g w x u)
    (hK : storeA σ i.size p x fun σ' => K (.tup []) σ') :
    ∃ w' g' σ', (Instr.storeAt t v u).run P w = .ok () w' ∧ Rel g' w' σ' ∧ Evo σ g w σ' g' w' ∧ K (.tup []) σ' := by
  obtain ⟨c1, c2⟩ := cells_rel hu hK.2.1
  obtain ⟨A, w', g', σ', rfl, h2, h3, h4, h5⟩ := store_cells (P := P) (us := u.cells.toList) hR hv (by simpa using c1) (fun i hi => by simpa using c2 i hi) (vals_oneCell hu hK.2.1) hK
  refine ⟨w', g', σ', ?_, h3, h4, h5⟩
  have hn := hK.1
  simp only [Instr.storeAt, Instr.sureAddr, Sem.run_bind, Sem.run_pure, Result.andThen_ok, storeVar, run_sizeOf' hi]
  have e1 : ¬ u.cells.size ≠ i.size := by omega
  simp only [if_neg e1, Sem.run_pure, Result.andThen_ok]
  exact h2
end
end Go.AM
namespace Go.AM
section
variable {P : Program} {g : Ghost} {w : World} {σ : Store} {K : AV → Store → Prop}
theorem baList (l : List UInt8) : (⟨l.toArray⟩ : ByteArray).toList = l := by
  have key : ∀ (n : Nat) (b : ByteArray) (i : Nat) (r : List UInt8), b.size - i = n → ByteArray.toList.loop b i r = r.reverse ++ b.data.toList.drop i := by
    intro n
    induction n with
    | zero =>
      intro b i r h
      unfold ByteArray.toList.loop
      rw [if_neg (by omega)]
      have : b.data.toList.length ≤ i := by
        have : b.data.toList.length = b.size := by rw [Array.length_toList]; rfl
        omega
      rw [List.drop_eq_nil_of_le this, List.append_nil]
    | succ n ih =>
      intro b i r h
      have hi : i < b.size := by omega
      unfold ByteArray.toList.loop
      rw [if_pos hi, ih b (i + 1) _ (by omega)]
      have hi' : i < b.data.toList.length := by rw [Array.length_toList]; exact hi
      have hi2 : i < b.data.size := hi
      rw [List.drop_eq_getElem_cons hi', List.reverse_cons, List.append_assoc, List.singleton_append]
      congr 2
      show b.data[i]! = _
      rw [getElem!_pos b.data i hi2]
      simp
  have := key _ ⟨l.toArray⟩ 0 [] rfl
  simpa [ByteArray.toList] using this
theorem run_arith (t : TypeId) (k : IntKind) (n m : Int) (w : World) :
    (binOp .add t (.int k n) (.int k m)).run P w = .ok (.int k (wrapK k (n + m))) w ∧ (binOp .sub t (.int k n) (.int k m)).run P w = .ok (.int k (wrapK k (n - m))) w ∧
    (binOp .mul t (.int k n) (.int k m)).run P w = .ok (.int k (wrapK k (n * m))) w := by
  simp [binOp, Op.intArith, wrapK]
theorem run_div (t : TypeId) (k : IntKind) (n m : Int) (w : World) (h : m ≠ 0) :
    (binOp .quo t (.int k n) (.int k m)).run P w = .ok (.int k (wrapK k (n.tdiv m))) w ∧ (binOp .rem t (.int k n) (.int k m)).run P w = .ok (.int k (n.tmod m)) w := by
  simp [binOp, Op.intDiv, wrapK, h]
theorem run_bits (t : TypeId) (k : IntKind) (n m : Int) (w : World) :
    (binOp .and t (.int k n) (.int k m)).run P w = .ok (.int k (bitsK .and k n m)) w ∧ (binOp .or t (.int k n) (.int k m)).run P w = .ok (.int k (bitsK .or k n m)) w ∧
    (binOp .xor t (.int k n) (.int k m)).run P w = .ok (.int k (bitsK .xor k n m)) w ∧ (binOp .andNot t (.int k n) (.int k m)).run P w = .ok (.int k (bitsK .andNot k n m)) w := by
  simp [binOp, Op.intBits, bitsK]
theorem run_shift (t : TypeId) (k k' : IntKind) (n m : Int) (w : World) (h : 0 ≤ m) :
    (binOp .shl t (.int k n) (.int k' m)).run P w = .ok (.int k (wrapK k (n * 2 ^ (Nat.min m.toNat k.bits)))) w ∧ (binOp .shr t (.int k n) (.int k' m)).run P w = .ok (.int k (n.fdiv (2 ^ (Nat.min m.toNat k.bits)))) w := by
  have h1 : ¬ m < 0 := by omega
  simp [binOp, Op.shift, wrapK, h1, Nat.min_def]
theorem run_cmp (t : TypeId) (k : IntKind) (n m : Int) (w : World) :
    (binOp .eql t (.int k n) (.int k m)).run P w = .ok (.bool (n == m)) w ∧ (binOp .neq t (.int k n) (.int k m)).run P w = .ok (.bool (!(n == m))) w ∧
    (binOp .lss t (.int k n) (.int k m)).run P w = .ok (.bool (decide (n < m))) w ∧ (binOp .leq t (.int k n) (.int k m)).run P w = .ok (.bool (decide (n ≤ m))) w ∧
    (binOp .gtr t (.int k n) (.int k m)).run P w = .ok (.bool (decide (m < n))) w ∧ (binOp .geq t (.int k n) (.int k m)).run P w = .ok (.bool (decide (m ≤ n))) w := by
  simp [binOp, Op.intCmp, bne]
theorem run_str (t : TypeId) (s u : List UInt8) (w : World) :
    (binOp .eql t (.string ⟨s.toArray⟩) (.string ⟨u.toArray⟩)).run P w = .ok (.bool (s == u)) w ∧ (binOp .neq t (.string ⟨s.toArray⟩) (.string ⟨u.toArray⟩)).run P w = .ok (.bool (!(s == u))) w ∧
    (binOp .lss t (.string ⟨s.toArray⟩) (.string ⟨u.toArray⟩)).run P w = .ok (.bool (Op.bytesLess s u)) w ∧ (binOp .leq t (.string ⟨s.toArray⟩) (.string ⟨u.toArray⟩)).run P w = .ok (.bool (Op.bytesLess s u || s == u)) w ∧
    (binOp .gtr t (.string ⟨s.toArray⟩) (.string ⟨u.toArray⟩)).run P w = .ok (.bool (!(Op.bytesLess s u || s == u))) w ∧ (binOp .geq t (.string ⟨s.toArray⟩) (.string ⟨u.toArray⟩)).run P w = .ok (.bool (!Op.bytesLess s u)) w := by
  simp [binOp, Op.stringOp, baList]
theorem run_cat (t : TypeId) (s u : List UInt8) (w : World) (h : ((s.length + u.length : Nat) : Int) ≤ IntKind.i64.max) :
    (binOp .add t (.string ⟨s.toArray⟩) (.string ⟨u.toArray⟩)).run P w = .ok (.string ⟨(s ++ u).toArray⟩) w := by
  have h1 : ¬ (((⟨s.toArray⟩ : ByteArray).size + (⟨u.toArray⟩ : ByteArray).size : Nat) : Int) > IntKind.i64.max := by
    simp only [ByteArray.size, List.size_toArray]; omega
  simp only [binOp, Op.stringOp, if_neg h1, Sem.run_pure]
  congr 2
theorem bin_sound {op : BinOp} {t : TypeId} {x y : AV} {a b : Value} (hR : Rel g w σ) (hx : VR g w x a) (hy : VR g w y b)
    (hK : binA op x y fun v => K v σ) : RunS P (binOp op t a b) g w σ K := by
  cases hx <;> cases hy <;> (try (cases op <;> exact hK.elim))
  case int.int k n k' m =>
    cases op <;> simp only [binA] at hK
    case shl => exact RunS.pure hR (run_shift t k k' n m w hK.1).1 (.int _ _) hK.2
    case shr => exact RunS.pure hR (run_shift t k k' n m w hK.1).2 (.int _ _) hK.2
    all_goals obtain ⟨rfl, hK⟩ := hK
    case add => exact RunS.pure hR (run_arith t k n m w).1 (.int _ _) hK
    case sub => exact RunS.pure hR (run_arith t k n m w).2.1 (.int _ _) hK
    case mul => exact RunS.pure hR (run_arith t k n m w).2.2 (.int _ _) hK
    case quo => exact RunS.pure hR (run_div t k n m w hK.1).1 (.int _ _) hK.2
    case rem => exact RunS.pure hR (run_div t k n m w hK.1).2 (.int _ _) hK.2
    case and => exact RunS.pure hR (run_bits t k n m w).1 (.int _ _) hK
    case or => exact RunS.pure hR (run_bits t k n m w).2.1 (.int _ _) hK
    case xor => exact RunS.pure hR (run_bits t k n m w).2.2.1 (.int _ _) hK
    case andNot => exact RunS.pure hR (run_bits t k n m w).2.2.2 (.int _ _) hK
    case eql => exact RunS.pure hR (run_cmp t k n m w).1 (.bool _) hK
    case neq => exact RunS.pure hR (run_cmp t k n m w).2.1 (.bool _) hK
    case lss => exact RunS.pure hR (run_cmp t k n m w).2.2.1 (.bool _) hK
    case leq => exact RunS.pure hR (run_cmp t k n m w).2.2.2.1 (.bool _) hK
    case gtr => exact RunS.pure hR (run_cmp t k n m w).2.2.2.2.1 (.bool _) hK
    case geq => exact RunS.pure hR (run_cmp t k n m w).2.2.2.2.2 (.bool _) hK
  case str.str s u =>
    cases op <;> simp only [binA] at hK
    case add => exact RunS.pure hR (run_cat t s u w hK.1) (.str _) hK.2
    case eql => exact RunS.pure hR (run_str t s u w).1 (.bool _) hK
    case neq => exact RunS.pure hR (run_str t s u w).2.1 (.bool _) hK
    case lss => exact RunS.pure hR (run_str t s u w).2.2.1 (.bool _) hK
    case leq => exact RunS.pure hR (run_str t s u w).2.2.2.1 (.bool _) hK
    case gtr => exact RunS.pure hR (run_str t s u w).2.2.2.2.1 (.bool _) hK
    case geq => exact RunS.pure hR (run_str t s u w).2.2.2.2.2 (.bool _) hK
theorem un_sound {op : UnOp} {x : AV} {a : Value} (hR : Rel g w σ) (hx : VR g w x a) (hK : unA op x fun v => K v σ) : RunS P (Op.unary op a) g w σ K := by
  cases hx <;> (try (cases op <;> exact hK.elim))
  case bool b =>
    cases op <;> simp only [unA] at hK
    case not => exact RunS.pure hR (by simp [Op.unary]) (.bool _) hK
  case int k n =>
    cases op <;> simp only [unA] at hK
    case neg => exact RunS.pure hR (by simp [Op.unary, Op.intArith]; rfl) (.int k _) hK
    case xor => exact RunS.pure hR (by simp [Op.unary, Op.intBits]; rfl) (.int k _) hK
theorem cint_sound {s d : TypeId} {k k' : IntKind} {x : AV} {a : Value} (hR : Rel g w σ) (h1 : P.underlying s = some (.int k')) (h2 : P.underlying d = some (.int k)) (hx : VR g w x a)
    (hK : match (generalizing := false) x with | .int _ n => K (.int k (wrapK k n)) σ | _ => False) : RunS P (convert s d a) g w σ K := by
  cases hx <;> simp only at hK
  case int k0 n => exact RunS.pure hR (by simp [convert, run_underlying' h1, run_underlying' h2, Conv.intToInt]; rfl) (.int k _) hK
theorem cid_sound {s d : TypeId} {x : AV} {a : Value} (hR : Rel g w σ) (h1 : P.underlying s = some .string) (h2 : P.underlying d = some .string) (hx : VR g w x a) (hs : ∃ u, x = .str u)
    (hK : K x σ) : RunS P (convert s d a) g w σ K := by
  obtain ⟨u, rfl⟩ := hs
  cases hx
  exact RunS.pure hR (by simp [convert, run_underlying' h1, run_underlying' h2]) (.str _) hK
theorem extract_sound {x : AV} {a : Value} {i : Nat} (hR : Rel g w σ) (hx : VR g w x a) (hK : match (generalizing := false) x with | .tup vs => i < vs.length ∧ K (vs.getD i .undef) σ | _ => False) :
    RunS P (Instr.extract a i) g w σ K := by
  cases hx <;> simp only at hK
  case tup cs vs hl h =>
    obtain ⟨h1, h2⟩ := hK
    have h3 : i < vs.size := by omega
    exact RunS.pure hR (v := vs.getD i Go.undef) (by simp [Instr.extract, h3]) (h i h1) h2
theorem idxS_sound {t : TypeId} {x y : AV} {a b : Value} (hR : Rel g w σ) (hu : P.underlying t = some .string) (hx : VR g w x a) (hy : VR g w y b)
    (hK : match (generalizing := false) x, y with | .str s, .int _ k => 0 ≤ k ∧ k < s.length ∧ K (.int .u8 (s.getD k.toNat 0).toNat) σ | _, _ => False) : RunS P (Instr.index t a b) g w σ K := by
  cases hx <;> cases hy <;> simp only at hK
  case str.int s k n =>
    obtain ⟨h1, h2, h3⟩ := hK
    have h4 : n.toNat < s.length := by omega
    have h5 : (⟨s.toArray⟩ : ByteArray)[n.toNat]? = some (s.getD n.toNat 0) := by
      have : n.toNat < (⟨s.toArray⟩ : ByteArray).size := by simpa [ByteArray.size] using h4
      rw [getElem?_pos (⟨s.toArray⟩ : ByteArray) n.toNat this]
      congr 1
      simp [ByteArray.getElem_eq_getElem_data, h4]
    refine RunS.pure hR ?_ (.int .u8 _) h3
    simp only [Instr.index, asIntOf, Sem.run_bind, Sem.run_pure, Result.andThen_ok, run_underlying' hu, if_pos h1, h5]
end
end Go.AM
namespace Go.AM
section
variable {P : Program} {g : Ghost} {w : World} {σ : Store} {K : AV → Store → Prop}
theorem tyEl_spec {t : TypeId} {el : El} (h : tyEl P t = some el) : ∃ i, P.info? t = some i ∧ tyAg P t = some el.ag ∧ i.size = el.sz ∧ (el.ag = false → el.sz = 1) ∧ i.bytes ≤ 24 * (el.sz + 1) ∧ el.sz ≤ 1000 ∧ ∃ z, i.zero = some z ∧ z.cells.size = el.sz := by
  unfold tyEl at h
  split at h
  · rename_i ag i h1 h2
    split at h
    · rename_i h3
      cases h
      simp only [Bool.and_eq_true, Bool.or_eq_true, beq_iff_eq, decide_eq_true_eq] at h3
      obtain ⟨⟨⟨h3, h4⟩, h5⟩, h6⟩ := h3
      refine ⟨i, h2, h1, rfl, fun (e : ag = false) => by rw [e] at h3; simpa using h3, h4, h5, ?_⟩
      cases hz : i.zero with
      | none => simp [hz] at h6
      | some z => exact ⟨z, rfl, by simpa [hz] using h6⟩
    · cases h
  · cases h
theorem part_rel {t : TypeId} {ag : Bool} {i : TypeInfo} {cs : List AV} {vs : Array Value} {off : Nat} (hA : tyAg P t = some ag) (hi : P.info? t = some i) (h1 : ag = false → i.size = 1)
    (hl : cs.length = vs.size) (hs : cs.all AV.scalar = true) (h : ∀ i, i < cs.length → VR g w (cs.getD i .undef) (vs.getD i Go.undef)) (ho : off + i.size ≤ cs.length) :
    ∃ v, (part t vs off).run P w = .ok v w ∧ VR g w (if ag then .agg ((cs.drop off).take i.size) else cs.getD off .undef) v := by
  cases ag with
  | true =>
    refine ⟨.agg (vs.extract off (off + i.size)), by simp [part, run_isAgg' hA, run_sizeOf' hi], ?_⟩
    refine .agg _ _ (by simp; omega) (all_drop_take hs _ _) (fun j hj => ?_)
    have hj' : j < i.size := by simp at hj; omega
    rw [getD_drop_take hj']
    have := h (off + j) (by omega)
    have h2 : off + j < vs.size := by omega
    have h3 : j < (vs.extract off (off + i.size)).size := by simp; omega
    have h4 : (vs.extract off (off + i.size)).getD j Go.undef = vs.getD (off + j) Go.undef := by
      rw [← Array.getElem_eq_getD (h := h3), ← Array.getElem_eq_getD (h := h2), Array.getElem_extract]
    rw [h4]; exact this
  | false =>
    have h2 : off < vs.size := by have := h1 rfl; omega
    refine ⟨vs.getD off Go.undef, by simp [part, run_isAgg' hA, h2], ?_⟩
    simpa using h off (by omega)
theorem field_sound {s : TypeId} {fs : Array Field} {f : Nat} {fi : Field} {ag : Bool} {i : TypeInfo} {x : AV} {a : Value} (hR : Rel g w σ) (hu : P.underlying s = some (.struct fs)) (hf : fs[f]? = some fi)
    (hA : tyAg P fi.type = some ag) (hi : P.info? fi.type = some i) (hx : VR g w x a)
    (hK : match (generalizing := false) x with | .agg cs => fi.offset + i.size ≤ cs.length ∧ (ag = false → i.size = 1) ∧ K (if ag then .agg ((cs.drop fi.offset).take i.size) else cs.getD fi.offset .undef) σ | _ => False) :
    RunS P (Instr.field s a f) g w σ K := by
  cases hx <;> simp only at hK
  case agg cs vs hl hs h =>
    obtain ⟨h1, h2, h3⟩ := hK
    obtain ⟨v, r1, r2⟩ := part_rel hA hi h2 hl hs h h1
    exact RunS.pure hR (by simp [Instr.field, run_underlying' hu, hf, asAgg, r1]) r2 h3
theorem faddr_sound {s : TypeId} {fs : Array Field} {f : Nat} {fi : Field} {i : TypeInfo} {x : AV} {a : Value} (hR : Rel g w σ) (hu : P.underlying s = some (.struct fs)) (hf : fs[f]? = some fi)
    (hi : P.info? fi.type = some i) (h0 : i.size ≠ 0) (hx : VR g w x a)
    (hK : match (generalizing := false) x with
      | .ref l o => K (.ref l (o + fi.offset)) σ
      | .eref el y o => K (.eref el y (o + fi.offset)) σ
      | .vref el l m j o => K (.vref el l m j (o + fi.offset)) σ
      | _ => False) : RunS P (Instr.fieldAt s a f) g w σ K := by
  have run : ∀ A : Addr, (Instr.fieldAt s (.pointer (some A)) f).run P w = .ok (.pointer (some (A.add fi.offset))) w := fun A => by
    simp [Instr.fieldAt, run_underlying' hu, hf, Instr.sureAddr, fieldPlace, run_sizeOf' hi, h0]
  cases hx <;> simp only at hK
  case ref l o h =>
    obtain ⟨h1, A, rfl, h2⟩ := h
    refine RunS.pure hR (run A) (.ref _ _ _ ⟨h1, _, rfl, fun e => ?_⟩) hK
    obtain ⟨h3, h4⟩ := h2 e
    rw [h4, add_plain]
    exact ⟨by rw [h4] at h3; exact h3, rfl⟩
  case eref el y o b o' hi' ft hc h =>
    refine RunS.pure hR (run _) ?_ hK
    rw [add_plain, Nat.add_assoc]
    exact .eref el y _ b o' hi' ft hc h
  case vref el l m j o h =>
    obtain ⟨h1, hm, A, rfl, h2⟩ := h
    refine RunS.pure hR (run A) (.vref _ _ _ _ _ _ ⟨h1, hm, _, rfl, fun e => ?_⟩) hK
    obtain ⟨h3, h4⟩ := h2 e
    rw [h4, add_plain, Nat.add_assoc]
    exact ⟨by rw [h4] at h3; exact h3, rfl⟩
theorem run_indexS {t e : TypeId} {el : El} {A : Addr} {n cap : Nat} {k : IntKind} {i : Int} (hu : P.underlying t = some (.slice e)) (he : tyEl P e = some el) (h0 : 0 ≤ i) (h1 : i < n) :
    (Instr.indexAt t (.slice (some A) n cap) (.int k i)).run P w = .ok (.pointer (some (A.add (i.toNat * el.sz)))) w := by
  obtain ⟨fi, hi, _, hs, _⟩ := tyEl_spec he
  simp [Instr.indexAt, asIntOf, run_underlying' hu, h0, h1, run_sizeOf' hi, hs]
theorem run_indexA {t e : TypeId} {el : El} {A : Addr} {n : Nat} {k : IntKind} {i : Int} (hu : P.underlying t = some (.array n e)) (he : tyEl P e = some el) (h0 : 0 ≤ i) (h1 : i < n) :
    (Instr.indexAt t (.pointer (some A)) (.int k i)).run P w = .ok (.pointer (some (A.add (i.toNat * el.sz)))) w := by
  obtain ⟨fi, hi, _, hs, _⟩ := tyEl_spec he
  simp [Instr.indexAt, asIntOf, run_underlying' hu, h0, h1, run_sizeOf' hi, hs, Instr.sureAddr]
theorem iaddrS_sound {t e : TypeId} {el : El} {x y : AV} {a b : Value} (hR : Rel g w σ) (hu : P.underlying t = some (.slice e)) (he : tyEl P e = some el) (hx : VR g w x a) (hy : VR g w y b)
    (hK : match (generalizing := false) y with
      | .int _ k => match (generalizing := false) x with
        | .lst _ el' xs => el' = el ∧ 0 ≤ k ∧ k < xs.length ∧ K (.eref el (xs.getD k.toNat .undef) 0) σ
        | .own el' l m o n => el' = el ∧ 0 ≤ k ∧ k < n ∧ match σ[l]? with
          | some (.vecT _ el'' xs) => el'' = el ∧ m = xs.length ∧ K (.vref el l m (o + k.toNat) 0) σ
          | _ => False
        | _ => False
      | _ => False) : RunS P (Instr.indexAt t a b) g w σ K := by
  cases hy <;> simp only at hK
  case int k i =>
    cases hx <;> simp only at hK
    case lstE => exact absurd (Int.lt_of_le_of_lt hK.2.1 hK.2.2.1) (by simp)
    case lst f el' xs b' off cap hi hf hx' ft hc h =>
      obtain ⟨rfl, h0, h1, h2⟩ := hK
      have h3 : i.toNat < xs.length := by omega
      refine RunS.pure hR (run_indexS hu he h0 h1) ?_ h2
      rw [add_plain]
      exact .eref el' _ 0 b' (off + i.toNat * el'.sz) hi (ft _ h3) (fun c hc' => by rw [Nat.add_assoc]; exact hc _ c h3 hc') (fun c hc' => by rw [Nat.add_assoc]; exact h _ c h3 hc')
    case own el' l m o n h =>
      obtain ⟨rfl, h0, h1, h2⟩ := hK
      obtain ⟨q1, q2, A, cap, rfl, q3⟩ := h
      split at h2
      · rename_i el'' xs hxs
        obtain ⟨rfl, rfl, h2⟩ := h2
        obtain ⟨o1, o2, o3⟩ := hR.ok l _ hxs
        obtain ⟨q4, q5, q6⟩ := q3 o1.symm
        rcases o3 with ⟨rfl, _, _⟩ | ⟨b, vs, b1, b2, b3, b4, b5⟩
        · simp at q4; omega
        · have q7 := q6 (by omega)
          rw [b1] at q7
          simp only [Option.map_some] at q7
          subst q7
          refine RunS.pure hR (run_indexS hu he h0 h1) (.vref _ _ _ _ _ _ ⟨q1, q2, _, rfl, fun e => ?_⟩) h2
          rw [add_plain]
          exact ⟨b1, by rw [Nat.add_mul, Nat.add_assoc]; rfl⟩
      · exact h2.elim
theorem iaddrA_sound {t e : TypeId} {el : El} {n : Nat} {x y : AV} {a b : Value} (hR : Rel g w σ) (hu : P.underlying t = some (.array n e)) (he : tyEl P e = some el) (hx : VR g w x a) (hy : VR g w y b)
    (hK : match (generalizing := false) y with
      | .int _ k => match (generalizing := false) x with
        | .ref l o => 0 ≤ k ∧ k < n ∧ K (.ref l (o + k.toNat * el.sz)) σ
        | .eref el' y o => 0 ≤ k ∧ k < n ∧ K (.eref el' y (o + k.toNat * el.sz)) σ
        | .vref el' l m j o => 0 ≤ k ∧ k < n ∧ K (.vref el' l m j (o + k.toNat * el.sz)) σ
        | _ => False
      | _ => False) : RunS P (Instr.indexAt t a b) g w σ K := by
  cases hy <;> simp only at hK
  case int k i =>
    cases hx <;> simp only at hK
    case ref l o h =>
      obtain ⟨h0, h1, h2⟩ := hK
      obtain ⟨q1, A, rfl, q2⟩ := h
      refine RunS.pure hR (run_indexA hu he h0 h1) (.ref _ _ _ ⟨q1, _, rfl, fun e => ?_⟩) h2
      obtain ⟨h3, h4⟩ := q2 e
      rw [h4, add_plain]
      exact ⟨by rw [h4] at h3; exact h3, rfl⟩
    case eref el' x' o b' o' hi' ft hc h =>
      obtain ⟨h0, h1, h2⟩ := hK
      refine RunS.pure hR (run_indexA hu he h0 h1) ?_ h2
      rw [add_plain, Nat.add_assoc]
      exact .eref el' _ _ b' o' hi' ft hc h
    case vref el' l m j o h =>
      obtain ⟨h0, h1, h2⟩ := hK
      obtain ⟨q1, qm, A, rfl, q2⟩ := h
      refine RunS.pure hR (run_indexA hu he h0 h1) (.vref _ _ _ _ _ _ ⟨q1, qm, _, rfl, fun e => ?_⟩) h2
      obtain ⟨h3, h4⟩ := q2 e
      rw [h4, add_plain, Nat.add_assoc]
      exact ⟨by rw [h4] at h3; exact h3, rfl⟩
theorem idxA_sound {t e : TypeId} {el : El} {n : Nat} {x y : AV} {a b : Value} (hR : Rel g w σ) (hu : P.underlying t = some (.array n e)) (he : tyEl P e = some el) (hx : VR g w x a) (hy : VR g w y b)
    (hK : match (generalizing := false) x, y with
      | .agg cs, .int _ k => 0 ≤ k ∧ k < n ∧ (k.toNat * el.sz + el.sz ≤ cs.length) ∧ (el.ag = false → el.sz = 1) ∧
        K (if el.ag then .agg ((cs.drop (k.toNat * el.sz)).take el.sz) else cs.getD (k.toNat * el.sz) .undef) σ
      | _, _ => False) : RunS P (Instr.index t a b) g w σ K := by
  obtain ⟨fi, hi, hA, hs, h1, _⟩ := tyEl_spec he
  cases hx <;> cases hy <;> simp only at hK
  case agg.int cs vs hl hsc h k i =>
    obtain ⟨h0, h2, h3, _, h4⟩ := hK
    obtain ⟨v, r1, r2⟩ := part_rel (P := P) (g := g) (w := w) (off := i.toNat * el.sz) hA hi (fun e => hs.trans (h1 e)) hl hsc h (by omega)
    rw [hs] at r2
    exact RunS.pure hR (by simp [Instr.index, asIntOf, run_underlying' hu, h0, h2, run_sizeOf' hi, hs, r1]) r2 h4
theorem run_bound {k : IntKind} {i : Int} {y : Nat} {code : BoundsCode} (h0 : 0 ≤ i) (h1 : i ≤ y) : (Instr.sliceBound (.int k i) y code).run P w = .ok i.toNat w := by
  simp [Instr.sliceBound, asIntOf, h0, h1]
def BoundR (g : Ghost) (w : World) (x : Option AV) (v : Option Value) : Prop :=
  match x, v with
  | none, none => True
  | some a, some u => VR g w a u
  | _, _ => False
theorem slS_sound {t : TypeId} {x : AV} {a : Value} {lo hi : Option AV} {vl vh : Option Value} (hR : Rel g w σ) (hu : P.underlying t = some .string) (hx : VR g w x a) (hl : BoundR g w lo vl) (hh : BoundR g w hi vh)
    (hK : match (generalizing := false) x with
      | .str s => bound hi s.length s.length fun h => bound lo 0 h fun l => K (.str ((s.drop l).take (h - l))) σ
      | _ => False) : RunS P (Instr.sliceAt t a vl vh none) g w σ K := by
  cases hx <;> simp only at hK
  case str s =>
    have key : ∀ (l h : Nat), l ≤ h → h ≤ s.length → (⟨s.toArray⟩ : ByteArray).extract l h = ⟨((s.drop l).take (h - l)).toArray⟩ := fun l h h1 h2 => by
      apply ByteArray.ext
      simp [ByteArray.data_extract]
    have hs : (⟨s.toArray⟩ : ByteArray).size = s.length := by simp [ByteArray.size]
    obtain ⟨h, hb, kb⟩ : ∃ h : Nat, h ≤ s.length ∧ (match vh with | some v => Instr.sliceBound v s.length .sliceAlen | none => Pure.pure s.length : Sem Nat).run P w = .ok h w ∧ bound lo 0 h fun l => K (.str ((s.drop l).take (h - l))) σ := by
      cases hi with
      | none => cases vh with
        | none => exact ⟨s.length, Nat.le_refl _, rfl, hK⟩
        | some v => exact hh.elim
      | some u => cases vh with
        | none => exact hh.elim
        | some v =>
          have hh' : VR g w u v := hh
          cases hh' <;> simp only [bound] at hK
          case int k i => exact ⟨i.toNat, by omega, run_bound hK.1 hK.2.1, hK.2.2⟩
    obtain ⟨kb1, kb2⟩ := kb
    obtain ⟨l, lb, r1, r2⟩ : ∃ l : Nat, l ≤ h ∧ (match vl with | some v => Instr.sliceBound v h .sliceB | none => Pure.pure 0 : Sem Nat).run P w = .ok l w ∧ K (.str ((s.drop l).take (h - l))) σ := by
      cases lo with
      | none => cases vl with
        | none => exact ⟨0, Nat.zero_le _, rfl, kb2⟩
        | some v => exact hl.elim
      | some u => cases vl with
        | none => exact hl.elim
        | some v =>
          have hl' : VR g w u v := hl
          cases hl' <;> simp only [bound] at kb2
          case int k i => exact ⟨i.toNat, by omega, run_bound kb2.1 kb2.2.1, kb2.2.2⟩
    refine RunS.pure hR (v := .string ⟨((s.drop l).take (h - l)).toArray⟩) ?_ (.str _) r2
    rw [← key l h lb hb]
    cases vh <;> cases vl <;> simp_all [Instr.sliceAt, run_underlying' hu, Instr.slice, Instr.sliceBounds]
end
end Go.AM
namespace Go.AM
section
variable {P : Program} {g : Ghost} {w : World} {σ : Store} {K : AV → Store → Prop}
theorem bounds_run {lo hi : Option AV} {vl vh : Option Value} {len cap : Nat} {K : Nat → Nat → Prop} (hl : BoundR g w lo vl) (hh : BoundR g w hi vh) (hlc : len ≤ cap)
    (hK : bound hi len len fun h => bound lo 0 h fun l => K l h) :
    ∃ l h : Nat, l ≤ h ∧ h ≤ len ∧ (Instr.sliceBounds true len cap vl vh none).run P w = .ok (l, h, cap) w ∧ K l h := by
  obtain ⟨h, hb, kb1, kb2⟩ : ∃ h : Nat, h ≤ len ∧ (match vh with | some v => Instr.sliceBound v cap .sliceAcap | none => Pure.pure len : Sem Nat).run P w = .ok h w ∧ bound lo 0 h fun l => K l h := by
    cases hi with
    | none => cases vh with
      | none => exact ⟨len, Nat.le_refl _, rfl, hK⟩
      | some v => exact hh.elim
    | some u => cases vh with
      | none => exact hh.elim
      | some v =>
        have hh' : VR g w u v := hh
        cases hh' <;> simp only [bound] at hK
        case int k i => exact ⟨i.toNat, by omega, run_bound hK.1 (by omega), hK.2.2⟩
  obtain ⟨l, lb, r1, r2⟩ : ∃ l : Nat, l ≤ h ∧ (match vl with | some v => Instr.sliceBound v h .sliceB | none => Pure.pure 0 : Sem Nat).run P w = .ok l w ∧ K l h := by
    cases lo with
    | none => cases vl with
      | none => exact ⟨0, Nat.zero_le _, rfl, kb2⟩
      | some v => exact hl.elim
    | some u => cases vl with
      | none => exact hl.elim
      | some v =>
        have hl' : VR g w u v := hl
        cases hl' <;> simp only [bound] at kb2
        case int k i => exact ⟨i.toNat, by omega, run_bound kb2.1 kb2.2.1, kb2.2.2⟩
  refine ⟨l, h, lb, hb, ?_, r2⟩
  cases vh <;> cases vl <;> simp_all [Instr.sliceBounds]
theorem slL_sound {t e : TypeId} {el : El} {x : AV} {a : Value} {lo hi : Option AV} {vl vh : Option Value} (hR : Rel g w σ) (hu : P.underlying t = some (.slice e)) (he : tyEl P e = some el)
    (hx : VR g w x a) (hl : BoundR g w lo vl) (hh : BoundR g w hi vh)
    (hK : match (generalizing := false) x with
      | .nils => bound hi 0 0 fun h => bound lo 0 h fun _ => K .nils σ
      | .lst _ el' xs => el' = el ∧ bound hi xs.length xs.length fun h => bound lo 0 h fun l => K (.lst false el ((xs.drop l).take (h - l))) σ
      | .own el' l m o n => el' = el ∧ match σ[l]? with
        | some (.vecT _ el'' xs) => el'' = el ∧ m = xs.length ∧ o + n ≤ m ∧ bound hi n n fun h => bound lo 0 h fun k => K (.own el l m (o + k) (h - k)) σ
        | _ => False
      | _ => False) : RunS P (Instr.sliceAt t a vl vh none) g w σ K := by
  obtain ⟨fi, hi', _, hs, _⟩ := tyEl_spec he
  have run : ∀ (A : Option Addr) (len cap l h : Nat), (Instr.sliceBounds true len cap vl vh none).run P w = .ok (l, h, cap) w →
      (Instr.sliceAt t (.slice A len cap) vl vh none).run P w = .ok (.slice (if cap = l then A else A.map (·.add (l * el.sz))) (h - l) (cap - l)) w := fun A len cap l h hb => by
    simp only [Instr.sliceAt, Sem.run_bind, run_underlying' hu, Result.andThen_ok, Instr.slice, hb, run_sizeOf' hi', hs, Sem.run_pure]
  cases hx <;> simp only at hK
  case nils =>
    obtain ⟨l, h, q1, q2, q3, q4⟩ := bounds_run (P := P) (cap := 0) hl hh (Nat.le_refl _) hK
    have : h = 0 ∧ l = 0 := by omega
    obtain ⟨rfl, rfl⟩ := this
    refine RunS.pure hR (run none 0 0 0 0 q3) ?_ q4
    simpa using VR.nils
  case lstE f el' b cap hf =>
    obtain ⟨rfl, hK⟩ := hK
    obtain ⟨l, h, q1, q2, q3, q4⟩ := bounds_run (P := P) (cap := cap) hl hh (Nat.zero_le _) hK
    have : h = 0 ∧ l = 0 := by simp at q2; omega
    obtain ⟨rfl, rfl⟩ := this
    refine RunS.pure hR (run b 0 cap 0 0 q3) ?_ q4
    simpa using VR.lstE false _ _ cap (by simp)
  case lst f el' xs b off cap him hf hxc ft hc h =>
    obtain ⟨rfl, hK⟩ := hK
    obtain ⟨l, h', q1, q2, q3, q4⟩ := bounds_run (P := P) (cap := cap) hl hh hxc hK
    refine RunS.pure hR (run _ _ _ _ _ q3) ?_ q4
    by_cases e : h' = l
    · subst e
      simpa using VR.lstE false _ _ (cap - h') (by simp)
    · have hlt : l < h' := by omega
      rw [if_neg (by omega)]
      simp only [Option.map_some, add_plain]
      have hlen : ((xs.drop l).take (h' - l)).length = h' - l := by simp; omega
      have hget : ∀ i, i < h' - l → ((xs.drop l).take (h' - l)).getD i .undef = xs.getD (l + i) .undef := fun i hi => getD_drop_take hi
      have hoff : ∀ i c, off + l * el'.sz + (i * el'.sz + c) = off + ((l + i) * el'.sz + c) := fun i c => by rw [Nat.add_mul]; omega
      have := VR.lst (g := g) (w := w) false el' ((xs.drop l).take (h' - l)) b (off + l * el'.sz) (cap - l) him (by simp) (by rw [hlen]; omega)
        (fun i hi => by rw [hlen] at hi; rw [hget i hi]; exact ft _ (by omega))
        (fun i c hi hcc => by rw [hlen] at hi; rw [hoff]; exact hc _ c (by omega) hcc)
        (fun i c hi hcc => by rw [hlen] at hi; rw [hget i hi, hoff]; exact h _ c (by omega) hcc)
      rwa [hlen] at this
  case own el' l m o n h =>
    obtain ⟨rfl, hK⟩ := hK
    obtain ⟨q1, q2, A, cap, rfl, q3⟩ := h
    split at hK
    · rename_i el'' xs hxs
      obtain ⟨rfl, rfl, hon, hK⟩ := hK
      obtain ⟨o1, o2, o3⟩ := hR.ok l _ hxs
      obtain ⟨q4, q5, q6⟩ := q3 o1.symm
      have hcap : xs.length ≤ g.cap l := by
        rcases o3 with ⟨rfl, _, _⟩ | ⟨b, vs, b1, b2, b3, b4, b5⟩
        · exact Nat.zero_le _
        · exact b4
      obtain ⟨k, h', p1, p2, p3, p4⟩ := bounds_run (P := P) (cap := cap) hl hh (by omega) hK
      refine RunS.pure hR (run _ _ _ _ _ p3) (.own _ _ _ _ _ _ ⟨q1, q2, _, _, rfl, fun e => ⟨by omega, by omega, fun hlt => ?_⟩⟩) p4
      rw [if_neg (by omega), q6 (by omega)]
      cases g.base l with
      | none => rfl
      | some b => simp [add_plain, Nat.add_mul, Nat.add_assoc]
    · exact hK.elim
theorem nilck_sound {x : AV} {a : Value} {o : Oper} {y : Operand} {ac : Act} (ho : o.op = .nilCheck y) (ha : ac.eval y = a) (hR : Rel g w σ) (hx : VR g w x a)
    (hK : match (generalizing := false) x with
      | .ref .. | .eref .. | .vref .. | .ifc .. | .fn (.func _) _ _ | .yld _ => K x σ
      | _ => False) :
    ∃ v w' g' av σ', (execOp ac.eval o).run P w = .ok (.value v) w' ∧ Rel g' w' σ' ∧ Evo σ g w σ' g' w' ∧ VR g' w' av v ∧ K av σ' := by
  have fin : (execOp ac.eval o).run P w = .ok (.value a) w → K x σ → ∃ v w' g' av σ', (execOp ac.eval o).run P w = .ok (.value v) w' ∧ Rel g' w' σ' ∧ Evo σ g w σ' g' w' ∧ VR g' w' av v ∧ K av σ' :=
    fun h hk => ⟨a, w, g, x, σ, h, hR, .refl _ _ _, hx, hk⟩
  cases x <;> (try exact False.elim hK)
  case ref l off =>
    refine fin ?_ hK
    cases hx with | ref _ _ _ h => obtain ⟨_, A, rfl, _⟩ := h; simp [execOp, ho, ha]
  case eref el x off =>
    refine fin ?_ hK
    cases hx
    simp [execOp, ho, ha]
  case vref el l m i off =>
    refine fin ?_ hK
    cases hx with | vref _ _ _ _ _ _ h => obtain ⟨_, _, A, rfl, _⟩ := h; simp [execOp, ho, ha]
  case ifc t v =>
    refine fin ?_ hK
    cases hx; simp [execOp, ho, ha]
  case yld l =>
    refine fin ?_ hK
    cases hx with | yld _ _ h => obtain ⟨_, A, rfl, _⟩ := h; simp [execOp, ho, ha]
  case fn f first cap =>
    cases f <;> (try exact False.elim hK)
    case func n =>
      refine fin ?_ hK
      cases hx; simp [execOp, ho, ha]
theorem mkifc_sound {t : TypeId} {d : TypeDesc} {x : AV} {a : Value} (hR : Rel g w σ) (hu : P.underlying t = some d) (hd : ∀ ms, d ≠ .interface ms) (hx : VR g w x a) (hK : K (.ifc t x) σ) :
    RunS P (Instr.makeInterface t a) g w σ K := by
  refine RunS.pure hR ?_ (.ifc t x a hx) hK
  cases d <;> first | (simp [Instr.makeInterface, run_underlying' hu]; done) | exact absurd rfl (hd _)
theorem lenS_sound {ats : Array TypeId} {t : TypeId} {r : TypeId} {x : AV} {a : Value} (hR : Rel g w σ) (ht : ats[0]? = some t) (hu : P.underlying t = some .string) (hx : VR g w x a)
    (hK : match (generalizing := false) x with
      | .str s => K (.int .i64 s.length) σ
      | _ => False) : RunS P (Builtin.len_ ats r #[a]) g w σ K := by
  cases hx <;> simp only at hK
  case str s => exact RunS.pure hR (v := .int .i64 s.length) (by
    have hs : (⟨s.toArray⟩ : ByteArray).size = s.length := List.size_toArray
    unfold Builtin.len_; simp [ht, run_underlying' hu, goInt, hs]) (.int _ _) hK
theorem lenL_sound {ats : Array TypeId} {t e : TypeId} {r : TypeId} {x : AV} {a : Value} (hR : Rel g w σ) (ht : ats[0]? = some t) (hu : P.underlying t = some (.slice e)) (hx : VR g w x a)
    (hK : match (generalizing := false) x with
      | .nils => K (.int .i64 0) σ
      | .lst _ _ xs => K (.int .i64 xs.length) σ
      | .own _ _ _ _ n => K (.int .i64 n) σ
      | _ => False) : RunS P (Builtin.len_ ats r #[a]) g w σ K := by
  have hsl : ∀ A n c, a = .slice A n c → K (.int .i64 n) σ → RunS P (Builtin.len_ ats r #[a]) g w σ K := fun A n c ha hk => by
    subst ha
    exact RunS.pure hR (v := .int .i64 n) (by unfold Builtin.len_; simp [ht, run_underlying' hu, goInt]) (.int _ _) hk
  cases hx <;> simp only at hK
  case nils => exact hsl _ _ _ rfl hK
  case lstE => exact hsl _ _ _ rfl hK
  case lst => exact hsl _ _ _ rfl hK
  case own h => obtain ⟨_, _, A, cap, rfl, _⟩ := h; exact hsl _ _ _ rfl hK
theorem mins_run (op : Bool) : ∀ (xs : List AV) (vs : List Value) (x : AV) (v : Value), VR g w x v → xs.length = vs.length → (∀ i, i < xs.length → VR g w (xs.getD i .undef) (vs.getD i Go.undef)) →
    minsA op x xs (fun v => K v σ) → ∃ av u, (vs.foldlM (if op then Builtin.min2 else Builtin.max2) v).run P w = .ok u w ∧ VR g w av u ∧ K av σ := by
  intro xs
  induction xs with
  | nil =>
    intro vs x v hx hl _ hK
    cases vs with
    | nil => exact ⟨x, v, rfl, hx, hK⟩
    | cons _ _ => cases hl
  | cons y ys ih =>
    intro vs x v hx hl h hK
    cases vs with
    | nil => cases hl
    | cons u us =>
      have hy : VR g w y u := by simpa using h 0 (by simp)
      simp only [minsA] at hK
      cases hx <;> simp only [minA] at hK
      cases hy <;> simp only at hK
      rename_i k a k' b
      obtain ⟨av, u', r1, r2, r3⟩ := ih us _ (.int k (if op then (if b < a then b else a) else (if b > a then b else a))) (.int _ _) (by simpa using hl)
        (fun i hi => by simpa using h (i + 1) (by simpa using hi)) hK
      refine ⟨av, u', ?_, r2, r3⟩
      cases op <;> simpa [List.foldlM_cons, Builtin.min2, Builtin.max2] using r1
theorem min_sound {ats : Array TypeId} {r : TypeId} {x : AV} {xs : List AV} {v : Value} {vs : List Value} (hR : Rel g w σ) (hx : VR g w x v) (hl : xs.length = vs.length)
    (h : ∀ i, i < xs.length → VR g w (xs.getD i .undef) (vs.getD i Go.undef)) (hK : minsA true x xs fun v => K v σ) : RunS P (Builtin.min_ ats r (v :: vs).toArray) g w σ K := by
  obtain ⟨av, u, r1, r2, r3⟩ := mins_run (P := P) true xs vs x v hx hl h hK
  exact RunS.pure hR (by simpa [Builtin.min_] using r1) r2 r3
theorem max_sound {ats : Array TypeId} {r : TypeId} {x : AV} {xs : List AV} {v : Value} {vs : List Value} (hR : Rel g w σ) (hx : VR g w x v) (hl : xs.length = vs.length)
    (h : ∀ i, i < xs.length → VR g w (xs.getD i .undef) (vs.getD i Go.undef)) (hK : minsA false x xs fun v => K v σ) : RunS P (Builtin.max_ ats r (v :: vs).toArray) g w σ K := by
  obtain ⟨av, u, r1, r2, r3⟩ := mins_run (P := P) false xs vs x v hx hl h hK
  exact RunS.pure hR (by simpa [Builtin.max_] using r1) r2 r3
end
end Go.AM
