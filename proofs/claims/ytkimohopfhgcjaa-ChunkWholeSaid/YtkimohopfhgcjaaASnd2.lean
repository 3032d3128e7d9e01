/- Loads, stores, addresses. -/
import Derived.Test.YtkimohopfhgcjaaASnd1
namespace Go.AM
set_option linter.unusedSimpArgs false
set_option linter.unusedVariables false
set_option linter.unnecessarySimpa false
section
variable {P : Program} {g : Ghost} {w : World} {σ : Store} {K : AV → Store → Prop}

/-- Cells that are related read as a value that is. -/
theorem read_rel {g : Ghost} {w : World} {ag : Bool} {n : Nat} {b o : Nat} {cs : List AV} (h1 : ag = false → n = 1) (hl : cs.length = n) (hs : ag = true → cs.all AV.scalar = true)
    (h : ∀ c, c < n → VR g w (cs.getD c .undef) (cellD w ⟨b, o + c, none⟩)) :
    VR g w (if ag then .agg cs else cs.getD 0 .undef) (if ag then .agg ((List.range n).map fun c => cellD w ⟨b, o + c, none⟩).toArray else cellD w ⟨b, o, none⟩) := by
  cases ag with
  | true =>
    refine .agg cs _ (by simp [hl]) (hs rfl) (fun i hi => ?_)
    have := h i (by omega)
    have h2 : i < n := by omega
    simpa [h2] using this
  | false =>
    have := h 0 (by rw [h1 rfl]; omega)
    simpa using this

theorem getD_drop_take {cs : List AV} {off n c : Nat} (hc : c < n) : ((cs.drop off).take n).getD c .undef = cs.getD (off + c) .undef := by
  simp [hc]
theorem all_drop_take {cs : List AV} (h : cs.all AV.scalar = true) (off n : Nat) : ((cs.drop off).take n).all AV.scalar = true := by
  rw [List.all_eq_true] at h ⊢
  exact fun x hx => h x (List.mem_of_mem_drop (List.mem_of_mem_take hx))

theorem fits_sz {el : El} {x : AV} (h : x.fits el = true) (ha : el.ag = false) : el.sz = 1 := by
  cases x <;> simp_all [AV.fits]

/-- An element's cells, whole. -/
theorem elem_whole {g : Ghost} {w : World} {el : El} {x : AV} {b o : Nat} (hel : el.ag = false → el.sz = 1) (ft : x.fits el = true)
    (h : ∀ c, c < el.sz → VR g w (x.cell c) (cellD w ⟨b, o + c, none⟩)) :
    VR g w x (if el.ag then .agg ((List.range el.sz).map fun c => cellD w ⟨b, o + c, none⟩).toArray else cellD w ⟨b, o, none⟩) := by
  by_cases hx : ∃ cs, x = .agg cs
  · obtain ⟨cs, rfl⟩ := hx
    simp only [AV.fits, Bool.and_eq_true, beq_iff_eq] at ft
    obtain ⟨⟨h1, h2⟩, h3⟩ := ft
    have := read_rel (g := g) (w := w) (ag := el.ag) (n := el.sz) (b := b) (o := o) (cs := cs) hel h2 (fun _ => h3) h
    rw [h1] at this ⊢
    simpa using this
  · have hag : el.ag = false := by
      cases x <;> first
        | exact absurd ⟨_, rfl⟩ hx
        | (simp only [AV.fits, Bool.and_eq_true, Bool.not_eq_true'] at ft; exact ft.1)
        | cases ft
    have h0 := h 0 (by rw [hel hag]; omega)
    have hc : x.cell 0 = x := by cases x <;> first | rfl | exact absurd ⟨_, rfl⟩ hx
    rw [hc] at h0
    rw [hag]
    simpa using h0

theorem part_sound {t : TypeId} {ag : Bool} {i : TypeInfo} {el : El} {x : AV} {b o off : Nat} (hel : el.ag = false → el.sz = 1) (hA : tyAg P t = some ag) (hi : P.info? t = some i) (h1 : ag = false → i.size = 1)
    (ft : x.fits el = true) (hc : ∀ c, c < el.sz → (w.cell? ⟨b, o + c, none⟩).isSome = true)
    (h : ∀ c, c < el.sz → VR g w (x.cell c) (cellD w ⟨b, o + c, none⟩)) {K : AV → Prop} (hK : partOf el x off ag i.size K) :
    ∃ v av, (loadVar t ⟨b, o + off, none⟩).run P w = .ok v w ∧ VR g w av v ∧ K av := by
  unfold partOf at hK
  split at hK
  · rename_i e
    obtain ⟨rfl, e2, rfl⟩ := e
    refine ⟨_, x, load_rel hA hi h1 (fun c hc' => hc c (by omega)), ?_, hK⟩
    have := elem_whole hel ft h
    rw [← e2] at this
    simpa using this
  · obtain ⟨h2, h3⟩ := hK
    cases x <;> simp only at h3
    case agg cs =>
      obtain ⟨h4, h5⟩ := h3
      simp only [AV.fits, Bool.and_eq_true, beq_iff_eq] at ft
      obtain ⟨⟨_, hl⟩, hs⟩ := ft
      have e : ∀ c, (⟨b, o + off + c, none⟩ : Addr) = ⟨b, o + (off + c), none⟩ := fun c => by rw [Nat.add_assoc]
      refine ⟨_, _, load_rel hA hi h1 (fun c hc' => by rw [e]; exact hc (off + c) (by omega)), ?_, h4⟩
      have := read_rel (g := g) (w := w) (ag := ag) (n := i.size) (b := b) (o := o + off) (cs := (cs.drop off).take i.size) h1 (by simp; omega) (fun _ => all_drop_take hs _ _)
        (fun c hc' => by rw [getD_drop_take hc', e]; exact h (off + c) (by omega))
      cases ag with
      | true => simpa using this
      | false =>
        rw [h1 rfl] at this
        have e0 : ((cs.drop off).take 1).getD 0 .undef = cs.getD off .undef := by rw [getD_drop_take (by omega)]; rfl
        simp only [Bool.false_eq_true, if_false] at this ⊢
        rw [e0] at this
        exact this

theorem load_pure {t : TypeId} {ag : Bool} {i : TypeInfo} {p : AV} {v : Value} (hR : Rel g w σ) (hA : tyAg P t = some ag) (hi : P.info? t = some i) (h1 : ag = false → i.size = 1)
    (hv : VR g w p v)
    {K : AV → Prop} (hK : loadA σ ag i.size p K) : ∃ u av, (Instr.loadAt t v).run P w = .ok u w ∧ VR g w av u ∧ K av := by
  cases hv <;> simp only [loadA] at hK
  case ref l off h =>
    obtain ⟨hl, A, rfl, hA'⟩ := h
    split at hK
    · rename_i cs hcs
      obtain ⟨k1, k2, k3⟩ := hK
      obtain ⟨o1, o2, b, vs, o3, o4, o5, o6, _⟩ := hR.ok l _ hcs
      obtain ⟨a1, a2⟩ := hA' o1
      have hb : A.block = b := by rw [a1] at o3; cases o3; rfl
      rw [a2, hb]
      have hcell : ∀ c, c < i.size → w.cell? ⟨b, off + c, none⟩ = some (vs.getD (off + c) Go.undef) := fun c hc => o4.cell (by omega)
      have hD : ∀ c, c < i.size → cellD w ⟨b, off + c, none⟩ = vs.getD (off + c) Go.undef := fun c hc => by simp [cellD, hcell c hc]
      have hrun := load_rel (P := P) (w := w) (b := b) (o := off) hA hi h1 (fun c hc => by simp [hcell c hc])
      refine ⟨_, _, by simpa [Instr.loadAt, Instr.sureAddr] using hrun, ?_, k3⟩
      have := read_rel (g := g) (w := w) (ag := ag) (n := i.size) (b := b) (o := off) (cs := (cs.drop off).take i.size) h1 (by simp; omega) (fun _ => all_drop_take o2 _ _)
        (fun c hc => by rw [getD_drop_take hc, hD c hc]; exact o6 (off + c) (by omega))
      cases ag with
      | true => simpa using this
      | false =>
        rw [h1 rfl] at this
        have e0 : ((cs.drop off).take 1).getD 0 .undef = cs.getD off .undef := by rw [getD_drop_take (by omega)]; rfl
        simp only [Bool.false_eq_true, if_false] at this ⊢
        rw [e0] at this
        exact this
    · exact hK.elim
  case eref el x off b o hi' ft hc h =>
    have hel : el.ag = false → el.sz = 1 := fits_sz ft
    obtain ⟨v, av, r1, r2, r3⟩ := part_sound (P := P) hel hA hi h1 ft hc h hK
    exact ⟨_, _, by simpa [Instr.loadAt, Instr.sureAddr] using r1, r2, r3⟩
  case vref el l m j off h =>
    obtain ⟨hl, hm, A, rfl, hA'⟩ := h
    split at hK
    · rename_i el' xs hxs
      obtain ⟨rfl, rfl, k3, k4⟩ := hK
      obtain ⟨o1, o2, o3⟩ := hR.ok l _ hxs
      rcases o3 with ⟨rfl, _, _⟩ | ⟨b, vs, b1, b2, b3, b4, b5, _⟩
      · exact absurd k3 (Nat.not_lt_zero _)
      · obtain ⟨a1, a2⟩ := hA' o1.symm
        have hb : A.block = b := by rw [a1] at b1; cases b1; rfl
        rw [a2, hb]
        have hlt : ∀ c, c < el'.sz → j * el'.sz + c < vs.size := fun c hc => by
          rw [b3]
          calc j * el'.sz + c < j * el'.sz + el'.sz := by omega
            _ = (j + 1) * el'.sz := by rw [Nat.succ_mul]
            _ ≤ g.cap l * el'.sz := Nat.mul_le_mul_right _ (by omega)
        have hcell : ∀ c, c < el'.sz → w.cell? ⟨b, j * el'.sz + c, none⟩ = some (vs.getD (j * el'.sz + c) Go.undef) := fun c hc => b2.cell (hlt c hc)
        have hsome : ∀ c, c < el'.sz → (w.cell? ⟨b, j * el'.sz + c, none⟩).isSome = true := fun c hc => by rw [hcell c hc]; rfl
        have hD : ∀ c, c < el'.sz → cellD w ⟨b, j * el'.sz + c, none⟩ = vs.getD (j * el'.sz + c) Go.undef := fun c hc => by unfold cellD; rw [hcell c hc]; rfl
        obtain ⟨v, av, r1, r2, r3⟩ := part_sound (P := P) (g := g) (b := b) (o := j * el'.sz) (fits_sz (o2 j k3)) hA hi h1 (o2 j k3) hsome
          (fun c hc => by rw [hD c hc]; exact b5 j c k3 hc) k4
        exact ⟨_, _, by simpa [Instr.loadAt, Instr.sureAddr] using r1, r2, r3⟩
    · exact hK.elim

theorem load_sound {t : TypeId} {ag : Bool} {i : TypeInfo} {p : AV} {v : Value} (hR : Rel g w σ) (hA : tyAg P t = some ag) (hi : P.info? t = some i) (h1 : ag = false → i.size = 1)
    (hv : VR g w p v) (hK : loadA σ ag i.size p fun v => K v σ) : RunS P (Instr.loadAt t v) g w σ K := by
  obtain ⟨u, av, r1, r2, r3⟩ := load_pure (P := P) hR hA hi h1 hv hK
  exact RunS.pure hR r1 r2 r3

end
end Go.AM
