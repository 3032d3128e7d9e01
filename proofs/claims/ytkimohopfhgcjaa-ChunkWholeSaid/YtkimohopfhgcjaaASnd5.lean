/- Addresses, parts, slices. -/
import Derived.Test.YtkimohopfhgcjaaASnd4
namespace Go.AM
set_option linter.unusedSimpArgs false
set_option linter.unusedVariables false
set_option linter.unnecessarySimpa false
section
variable {P : Program} {g : Ghost} {w : World} {σ : Store} {K : AV → Store → Prop}

theorem tyEl_spec {t : TypeId} {el : El} (h : tyEl P t = some el) : ∃ i, P.info? t = some i ∧ tyAg P t = some el.ag ∧ i.size = el.sz ∧ (el.ag = false → el.sz = 1) ∧ i.bytes ≤ 24 * (el.sz + 1) ∧ el.sz ≤ 1000 ∧ ∃ z, i.zero = some z ∧ z.cells.size = el.sz := by
  unfold tyEl at h
  split at h
  · rename_i ag i h1 h2
    split at h
    · rename_i h3
      cases h
      simp only [Bool.and_eq_true, Bool.or_eq_true, beq_iff_eq, decide_eq_true_eq] at h3
      obtain ⟨⟨⟨h3, h4⟩, h5⟩, h6⟩ := h3
      refine ⟨i, h2, h1, rfl, fun (e : ag = false) => by rw [e] at h3; simpa using h3, h4, h5, ?_⟩
      cases hz : i.zero with
      | none => simp [hz] at h6
      | some z => exact ⟨z, rfl, by simpa [hz] using h6⟩
    · cases h
  · cases h

theorem part_rel {t : TypeId} {ag : Bool} {i : TypeInfo} {cs : List AV} {vs : Array Value} {off : Nat} (hA : tyAg P t = some ag) (hi : P.info? t = some i) (h1 : ag = false → i.size = 1)
    (hl : cs.length = vs.size) (hs : cs.all AV.scalar = true) (h : ∀ i, i < cs.length → VR g w (cs.getD i .undef) (vs.getD i Go.undef)) (ho : off + i.size ≤ cs.length) :
    ∃ v, (part t vs off).run P w = .ok v w ∧ VR g w (if ag then .agg ((cs.drop off).take i.size) else cs.getD off .undef) v := by
  cases ag with
  | true =>
    refine ⟨.agg (vs.extract off (off + i.size)), by simp [part, run_isAgg' hA, run_sizeOf' hi], ?_⟩
    refine .agg _ _ (by simp; omega) (all_drop_take hs _ _) (fun j hj => ?_)
    have hj' : j < i.size := by simp at hj; omega
    rw [getD_drop_take hj']
    have := h (off + j) (by omega)
    have h2 : off + j < vs.size := by omega
    have h3 : j < (vs.extract off (off + i.size)).size := by simp; omega
    have h4 : (vs.extract off (off + i.size)).getD j Go.undef = vs.getD (off + j) Go.undef := by
      rw [← Array.getElem_eq_getD (h := h3), ← Array.getElem_eq_getD (h := h2), Array.getElem_extract]
    rw [h4]; exact this
  | false =>
    have h2 : off < vs.size := by have := h1 rfl; omega
    refine ⟨vs.getD off Go.undef, by simp [part, run_isAgg' hA, h2], ?_⟩
    simpa using h off (by omega)

theorem field_sound {s : TypeId} {fs : Array Field} {f : Nat} {fi : Field} {ag : Bool} {i : TypeInfo} {x : AV} {a : Value} (hR : Rel g w σ) (hu : P.underlying s = some (.struct fs)) (hf : fs[f]? = some fi)
    (hA : tyAg P fi.type = some ag) (hi : P.info? fi.type = some i) (hx : VR g w x a)
    (hK : match (generalizing := false) x with | .agg cs => fi.offset + i.size ≤ cs.length ∧ (ag = false → i.size = 1) ∧ K (if ag then .agg ((cs.drop fi.offset).take i.size) else cs.getD fi.offset .undef) σ | _ => False) :
    RunS P (Instr.field s a f) g w σ K := by
  cases hx <;> simp only at hK
  case agg cs vs hl hs h =>
    obtain ⟨h1, h2, h3⟩ := hK
    obtain ⟨v, r1, r2⟩ := part_rel hA hi h2 hl hs h h1
    exact RunS.pure hR (by simp [Instr.field, run_underlying' hu, hf, asAgg, r1]) r2 h3

theorem faddr_sound {s : TypeId} {fs : Array Field} {f : Nat} {fi : Field} {i : TypeInfo} {x : AV} {a : Value} (hR : Rel g w σ) (hu : P.underlying s = some (.struct fs)) (hf : fs[f]? = some fi)
    (hi : P.info? fi.type = some i) (h0 : i.size ≠ 0) (hx : VR g w x a)
    (hK : match (generalizing := false) x with
      | .ref l o => K (.ref l (o + fi.offset)) σ
      | .eref el y o => K (.eref el y (o + fi.offset)) σ
      | .vref el l m j o => K (.vref el l m j (o + fi.offset)) σ
      | _ => False) : RunS P (Instr.fieldAt s a f) g w σ K := by
  have run : ∀ A : Addr, (Instr.fieldAt s (.pointer (some A)) f).run P w = .ok (.pointer (some (A.add fi.offset))) w := fun A => by
    simp [Instr.fieldAt, run_underlying' hu, hf, Instr.sureAddr, fieldPlace, run_sizeOf' hi, h0]
  cases hx <;> simp only at hK
  case ref l o h =>
    obtain ⟨h1, A, rfl, h2⟩ := h
    refine RunS.pure hR (run A) (.ref _ _ _ ⟨h1, _, rfl, fun e => ?_⟩) hK
    obtain ⟨h3, h4⟩ := h2 e
    rw [h4, add_plain]
    exact ⟨by rw [h4] at h3; exact h3, rfl⟩
  case eref el y o b o' hi' ft hc h =>
    refine RunS.pure hR (run _) ?_ hK
    rw [add_plain, Nat.add_assoc]
    exact .eref el y _ b o' hi' ft hc h
  case vref el l m j o h =>
    obtain ⟨h1, hm, A, rfl, h2⟩ := h
    refine RunS.pure hR (run A) (.vref _ _ _ _ _ _ ⟨h1, hm, _, rfl, fun e => ?_⟩) hK
    obtain ⟨h3, h4⟩ := h2 e
    rw [h4, add_plain, Nat.add_assoc]
    exact ⟨by rw [h4] at h3; exact h3, rfl⟩

theorem run_indexS {t e : TypeId} {el : El} {A : Addr} {n cap : Nat} {k : IntKind} {i : Int} (hu : P.underlying t = some (.slice e)) (he : tyEl P e = some el) (h0 : 0 ≤ i) (h1 : i < n) :
    (Instr.indexAt t (.slice (some A) n cap) (.int k i)).run P w = .ok (.pointer (some (A.add (i.toNat * el.sz)))) w := by
  obtain ⟨fi, hi, _, hs, _⟩ := tyEl_spec he
  simp [Instr.indexAt, asIntOf, run_underlying' hu, h0, h1, run_sizeOf' hi, hs]
theorem run_indexA {t e : TypeId} {el : El} {A : Addr} {n : Nat} {k : IntKind} {i : Int} (hu : P.underlying t = some (.array n e)) (he : tyEl P e = some el) (h0 : 0 ≤ i) (h1 : i < n) :
    (Instr.indexAt t (.pointer (some A)) (.int k i)).run P w = .ok (.pointer (some (A.add (i.toNat * el.sz)))) w := by
  obtain ⟨fi, hi, _, hs, _⟩ := tyEl_spec he
  simp [Instr.indexAt, asIntOf, run_underlying' hu, h0, h1, run_sizeOf' hi, hs, Instr.sureAddr]

theorem iaddrS_sound {t e : TypeId} {el : El} {x y : AV} {a b : Value} (hR : Rel g w σ) (hu : P.underlying t = some (.slice e)) (he : tyEl P e = some el) (hx : VR g w x a) (hy : VR g w y b)
    (hK : match (generalizing := false) y with
      | .int _ k => match (generalizing := false) x with
        | .lst _ el' xs => el' = el ∧ 0 ≤ k ∧ k < xs.length ∧ K (.eref el (xs.getD k.toNat .undef) 0) σ
        | .own el' l m o n => el' = el ∧ 0 ≤ k ∧ k < n ∧ match σ[l]? with
          | some (.vecT _ el'' xs) => el'' = el ∧ m = xs.length ∧ K (.vref el l m (o + k.toNat) 0) σ
          | _ => False
        | _ => False
      | _ => False) : RunS P (Instr.indexAt t a b) g w σ K := by
  cases hy <;> simp only at hK
  case int k i =>
    cases hx <;> simp only at hK
    case lstE => exact absurd (Int.lt_of_le_of_lt hK.2.1 hK.2.2.1) (by simp)
    case lst f el' xs b' off cap hi hf hx' ft hc h =>
      obtain ⟨rfl, h0, h1, h2⟩ := hK
      have h3 : i.toNat < xs.length := by omega
      refine RunS.pure hR (run_indexS hu he h0 h1) ?_ h2
      rw [add_plain]
      exact .eref el' _ 0 b' (off + i.toNat * el'.sz) hi (ft _ h3) (fun c hc' => by rw [Nat.add_assoc]; exact hc _ c h3 hc') (fun c hc' => by rw [Nat.add_assoc]; exact h _ c h3 hc')
    case own el' l m o n h =>
      obtain ⟨rfl, h0, h1, h2⟩ := hK
      obtain ⟨q1, q2, A, cap, rfl, q3⟩ := h
      split at h2
      · rename_i el'' xs hxs
        obtain ⟨rfl, rfl, h2⟩ := h2
        obtain ⟨o1, o2, o3⟩ := hR.ok l _ hxs
        obtain ⟨q4, q5, q6⟩ := q3 o1.symm
        rcases o3 with ⟨rfl, _, _⟩ | ⟨b, vs, b1, b2, b3, b4, b5⟩
        · simp at q4; omega
        · have q7 := q6 (by omega)
          rw [b1] at q7
          simp only [Option.map_some] at q7
          subst q7
          refine RunS.pure hR (run_indexS hu he h0 h1) (.vref _ _ _ _ _ _ ⟨q1, q2, _, rfl, fun e => ?_⟩) h2
          rw [add_plain]
          exact ⟨b1, by rw [← Nat.add_mul]; rfl⟩
      · exact h2.elim

theorem iaddrA_sound {t e : TypeId} {el : El} {n : Nat} {x y : AV} {a b : Value} (hR : Rel g w σ) (hu : P.underlying t = some (.array n e)) (he : tyEl P e = some el) (hx : VR g w x a) (hy : VR g w y b)
    (hK : match (generalizing := false) y with
      | .int _ k => match (generalizing := false) x with
        | .ref l o => 0 ≤ k ∧ k < n ∧ K (.ref l (o + k.toNat * el.sz)) σ
        | .eref el' y o => 0 ≤ k ∧ k < n ∧ K (.eref el' y (o + k.toNat * el.sz)) σ
        | .vref el' l m j o => 0 ≤ k ∧ k < n ∧ K (.vref el' l m j (o + k.toNat * el.sz)) σ
        | _ => False
      | _ => False) : RunS P (Instr.indexAt t a b) g w σ K := by
  cases hy <;> simp only at hK
  case int k i =>
    cases hx <;> simp only at hK
    case ref l o h =>
      obtain ⟨h0, h1, h2⟩ := hK
      obtain ⟨q1, A, rfl, q2⟩ := h
      refine RunS.pure hR (run_indexA hu he h0 h1) (.ref _ _ _ ⟨q1, _, rfl, fun e => ?_⟩) h2
      obtain ⟨h3, h4⟩ := q2 e
      rw [h4, add_plain]
      exact ⟨by rw [h4] at h3; exact h3, rfl⟩
    case eref el' x' o b' o' hi' ft hc h =>
      obtain ⟨h0, h1, h2⟩ := hK
      refine RunS.pure hR (run_indexA hu he h0 h1) ?_ h2
      rw [add_plain, Nat.add_assoc]
      exact .eref el' _ _ b' o' hi' ft hc h
    case vref el' l m j o h =>
      obtain ⟨h0, h1, h2⟩ := hK
      obtain ⟨q1, qm, A, rfl, q2⟩ := h
      refine RunS.pure hR (run_indexA hu he h0 h1) (.vref _ _ _ _ _ _ ⟨q1, qm, _, rfl, fun e => ?_⟩) h2
      obtain ⟨h3, h4⟩ := q2 e
      rw [h4, add_plain, Nat.add_assoc]
      exact ⟨by rw [h4] at h3; exact h3, rfl⟩

theorem idxA_sound {t e : TypeId} {el : El} {n : Nat} {x y : AV} {a b : Value} (hR : Rel g w σ) (hu : P.underlying t = some (.array n e)) (he : tyEl P e = some el) (hx : VR g w x a) (hy : VR g w y b)
    (hK : match (generalizing := false) x, y with
      | .agg cs, .int _ k => 0 ≤ k ∧ k < n ∧ (k.toNat * el.sz + el.sz ≤ cs.length) ∧ (el.ag = false → el.sz = 1) ∧
        K (if el.ag then .agg ((cs.drop (k.toNat * el.sz)).take el.sz) else cs.getD (k.toNat * el.sz) .undef) σ
      | _, _ => False) : RunS P (Instr.index t a b) g w σ K := by
  obtain ⟨fi, hi, hA, hs, h1, _⟩ := tyEl_spec he
  cases hx <;> cases hy <;> simp only at hK
  case agg.int cs vs hl hsc h k i =>
    obtain ⟨h0, h2, h3, _, h4⟩ := hK
    obtain ⟨v, r1, r2⟩ := part_rel (P := P) (g := g) (w := w) (off := i.toNat * el.sz) hA hi (fun e => hs.trans (h1 e)) hl hsc h (by omega)
    rw [hs] at r2
    exact RunS.pure hR (by simp [Instr.index, asIntOf, run_underlying' hu, h0, h2, run_sizeOf' hi, hs, r1]) r2 h4

/-! ### Slices of texts and of slices -/

theorem run_bound {k : IntKind} {i : Int} {y : Nat} {code : BoundsCode} (h0 : 0 ≤ i) (h1 : i ≤ y) : (Instr.sliceBound (.int k i) y code).run P w = .ok i.toNat w := by
  simp [Instr.sliceBound, asIntOf, h0, h1]

/-- A bound, as a value. -/
def BoundR (g : Ghost) (w : World) (x : Option AV) (v : Option Value) : Prop :=
  match x, v with
  | none, none => True
  | some a, some u => VR g w a u
  | _, _ => False

theorem slS_sound {t : TypeId} {x : AV} {a : Value} {lo hi : Option AV} {vl vh : Option Value} (hR : Rel g w σ) (hu : P.underlying t = some .string) (hx : VR g w x a) (hl : BoundR g w lo vl) (hh : BoundR g w hi vh)
    (hK : match (generalizing := false) x with
      | .str s => bound hi s.length s.length fun h => bound lo 0 h fun l => K (.str ((s.drop l).take (h - l))) σ
      | _ => False) : RunS P (Instr.sliceAt t a vl vh none) g w σ K := by
  cases hx <;> simp only at hK
  case str s =>
    have key : ∀ (l h : Nat), l ≤ h → h ≤ s.length → (⟨s.toArray⟩ : ByteArray).extract l h = ⟨((s.drop l).take (h - l)).toArray⟩ := fun l h h1 h2 => by
      apply ByteArray.ext
      simp [ByteArray.data_extract]
    have hs : (⟨s.toArray⟩ : ByteArray).size = s.length := by simp [ByteArray.size]
    obtain ⟨h, hb, kb⟩ : ∃ h : Nat, h ≤ s.length ∧ (match vh with | some v => Instr.sliceBound v s.length .sliceAlen | none => Pure.pure s.length : Sem Nat).run P w = .ok h w ∧ bound lo 0 h fun l => K (.str ((s.drop l).take (h - l))) σ := by
      cases hi with
      | none => cases vh with
        | none => exact ⟨s.length, Nat.le_refl _, rfl, hK⟩
        | some v => exact hh.elim
      | some u => cases vh with
        | none => exact hh.elim
        | some v =>
          have hh' : VR g w u v := hh
          cases hh' <;> simp only [bound] at hK
          case int k i => exact ⟨i.toNat, by omega, run_bound hK.1 hK.2.1, hK.2.2⟩
    obtain ⟨kb1, kb2⟩ := kb
    obtain ⟨l, lb, r1, r2⟩ : ∃ l : Nat, l ≤ h ∧ (match vl with | some v => Instr.sliceBound v h .sliceB | none => Pure.pure 0 : Sem Nat).run P w = .ok l w ∧ K (.str ((s.drop l).take (h - l))) σ := by
      cases lo with
      | none => cases vl with
        | none => exact ⟨0, Nat.zero_le _, rfl, kb2⟩
        | some v => exact hl.elim
      | some u => cases vl with
        | none => exact hl.elim
        | some v =>
          have hl' : VR g w u v := hl
          cases hl' <;> simp only [bound] at kb2
          case int k i => exact ⟨i.toNat, by omega, run_bound kb2.1 kb2.2.1, kb2.2.2⟩
    refine RunS.pure hR (v := .string ⟨((s.drop l).take (h - l)).toArray⟩) ?_ (.str _) r2
    rw [← key l h lb hb]
    cases vh <;> cases vl <;> simp_all [Instr.sliceAt, run_underlying' hu, Instr.slice, Instr.sliceBounds]

end
end Go.AM
