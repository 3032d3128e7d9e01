/- The operations do on worlds what they do on stores: the plain ones. -/
import Derived.Test.YtkimohopfhgcjaaAComp
import Derived.Laws.Sem
namespace Go.AM
set_option linter.unusedSimpArgs false
set_option linter.unusedVariables false
set_option linter.unnecessarySimpa false

structure EnvR (nt : Nat) (g : Ghost) (w : World) (e : Env) (tmps : Array Value) : Prop where
  size : tmps.size = nt
  rel : ∀ t, t < nt → VR g w (e t) (tmps.getD t Go.undef)

theorem EnvR.mono {nt : Nat} {g g' : Ghost} {w w' : World} {e : Env} {tmps : Array Value} (h : EnvR nt g w e tmps) (hm : Mono g w g' w') : EnvR nt g' w' e tmps :=
  ⟨h.size, fun t ht => (h.rel t ht).mono hm⟩
theorem EnvR.put {nt : Nat} {g : Ghost} {w : World} {e : Env} {a : Act} (h : EnvR nt g w e a.tmps) (d : Option Nat) {x : AV} {v : Value} (hv : VR g w x v) : EnvR nt g w (upd e d x) (a.put d v).tmps := by
  cases d with
  | none => exact h
  | some d =>
    refine ⟨by simp [Act.put, h.size], fun t ht => ?_⟩
    simp only [upd, Act.put]
    by_cases e1 : t = d
    · subst e1
      have : t < a.tmps.size := by rw [h.size]; exact ht
      simp [this, hv]
    · have := h.rel t ht
      simp only [if_neg e1]
      simpa [Array.getElem?_setIfInBounds_ne (Ne.symm e1)] using this

theorem cScal_rel {v : Value} {a : AV} (h : cScal v = some a) (g : Ghost) (w : World) : VR g w a v ∧ a.scalar = true := by
  cases v <;> simp only [cScal] at h
  case bool b => cases h; exact ⟨.bool b, rfl⟩
  case int k n => cases h; exact ⟨.int k n, rfl⟩
  case string s => cases h; exact ⟨by simpa using VR.str (g := g) (w := w) s.data.toList, rfl⟩
  case pointer p => cases p <;> simp [cScal] at h; subst h; exact ⟨.nilp, rfl⟩
  case slice p l c =>
    cases p with
    | none =>
      simp only [cScal] at h
      split at h
      · rename_i e; obtain ⟨rfl, rfl⟩ := e; cases h; exact ⟨.nils, rfl⟩
      · cases h
    | some p => simp [cScal] at h
  case map p => cases p <;> simp [cScal] at h; subst h; exact ⟨.nilm, rfl⟩
  case nilFunc => cases h; exact ⟨.nilf, rfl⟩
  case nilIface => cases h; exact ⟨.nili, rfl⟩
  all_goals cases h

theorem cScals_rel {vs : List Value} {az : List AV} (h : cScals vs = some az) (g : Ghost) (w : World) :
    az.length = vs.length ∧ az.all AV.scalar = true ∧ ∀ i, i < az.length → VR g w (az.getD i .undef) (vs.getD i Go.undef) := by
  induction vs generalizing az with
  | nil => cases h; exact ⟨rfl, rfl, fun i hi => absurd hi (Nat.not_lt_zero _)⟩
  | cons v vs ih =>
    simp only [cScals] at h
    split at h
    · rename_i a az' h1 h2
      cases h
      obtain ⟨i1, i2, i3⟩ := ih h2
      obtain ⟨j1, j2⟩ := cScal_rel h1 g w
      refine ⟨by simp [i1], by simpa [j2] using i2, fun i hi => ?_⟩
      cases i with
      | zero => simpa using j1
      | succ i => simpa using i3 i (by simpa using hi)
    · cases h

theorem cAV_rel {v : Value} {a : AV} (h : cAV v = some a) (g : Ghost) (w : World) : VR g w a v ∧ a.cells.all AV.scalar = true := by
  by_cases hv : ∃ cs, v = .agg cs
  · obtain ⟨cs, rfl⟩ := hv
    simp only [cAV, Option.map_eq_some_iff] at h
    obtain ⟨az, h1, rfl⟩ := h
    obtain ⟨i1, i2, i3⟩ := cScals_rel h1 g w
    exact ⟨.agg az cs (by simpa using i1) i2 (fun i hi => by simpa using i3 i hi), i2⟩
  · have h' : cScal v = some a := by
      cases v <;> simp only [cAV] at h <;> first | exact h | exact absurd ⟨_, rfl⟩ hv
    obtain ⟨j1, j2⟩ := cScal_rel h' g w
    refine ⟨j1, ?_⟩
    cases a <;> simp [AV.scalar] at j2 <;> simp [AV.cells, AV.scalar]

theorem cX_rel {nt : Nat} {x : Operand} {ax : AX} {g : Ghost} {w : World} {e : Env} {a : Act} (h : cX nt x = some ax) (hE : EnvR nt g w e a.tmps) : VR g w (ax.ev e) (a.eval x) := by
  cases x with
  | tmp t =>
    simp only [cX] at h
    split at h
    · cases h; exact hE.rel t ‹_›
    · cases h
  | const v =>
    simp only [cX, Option.map_eq_some_iff] at h
    obtain ⟨b, h1, rfl⟩ := h
    exact (cAV_rel h1 g w).1
  | global n => cases h
  | func f => cases h; exact .fn _ [] [] #[] #[] rfl rfl (fun i hi => absurd hi (Nat.not_lt_zero _)) (fun i hi => absurd hi (Nat.not_lt_zero _))

theorem cXs_rel {nt : Nat} {xs : List Operand} {az : List AX} {g : Ghost} {w : World} {e : Env} {a : Act} (h : cXs nt xs = some az) (hE : EnvR nt g w e a.tmps) :
    az.length = xs.length ∧ ∀ i, i < az.length → VR g w ((az.map (AX.ev e)).getD i .undef) ((xs.map a.eval).getD i Go.undef) := by
  induction xs generalizing az with
  | nil => cases h; exact ⟨rfl, fun i hi => absurd hi (Nat.not_lt_zero _)⟩
  | cons x xs ih =>
    simp only [cXs] at h
    split at h
    · rename_i b bs h1 h2
      cases h
      obtain ⟨i1, i2⟩ := ih h2
      refine ⟨by simp [i1], fun i hi => ?_⟩
      cases i with
      | zero => simpa using cX_rel h1 hE
      | succ i => simpa using i2 i (by simpa using hi)
    · cases h

/-! ### Cells -/

theorem oneCell_cells {v : Value} (h : v.oneCell' = true) : v.cells = #[v] := by
  cases v <;> first | rfl | (simp [Value.oneCell'] at h; done)
theorem cells_rel {g : Ghost} {w : World} {a : AV} {v : Value} (h : VR g w a v) (hs : a.cells.all AV.scalar = true) :
    a.cells.length = v.cells.size ∧ ∀ i, i < a.cells.length → VR g w (a.cells.getD i .undef) (v.cells.getD i Go.undef) := by
  by_cases hv : ∃ cs, a = .agg cs
  · obtain ⟨cs, rfl⟩ := hv
    cases h with
    | agg cs vs hl hs h => exact ⟨hl, h⟩
  · have hc : a.cells = [a] := by cases a <;> first | rfl | exact absurd ⟨_, rfl⟩ hv
    rw [hc] at hs
    have hsc : a.scalar = true := by simpa using hs
    have h1 := oneCell_cells (h.oneCell hsc)
    rw [hc, h1]
    refine ⟨rfl, fun i hi => ?_⟩
    have : i = 0 := by simpa using hi
    subst this
    simpa using h
theorem scalar_get {cs : List AV} (h : cs.all AV.scalar = true) {i : Nat} (hi : i < cs.length) : (cs.getD i .undef).scalar = true := by
  have := List.all_eq_true.1 h (cs[i]) (List.getElem_mem _)
  simpa [hi] using this

/-! ### What a run comes to -/

def RunS (P : Program) (s : Sem Value) (g : Ghost) (w : World) (σ : Store) (K : AV → Store → Prop) : Prop :=
  ∃ v w' g' av σ', s.run P w = .ok v w' ∧ Rel g' w' σ' ∧ Evo σ g w σ' g' w' ∧ VR g' w' av v ∧ K av σ'
theorem RunS.pure {P : Program} {s : Sem Value} {g : Ghost} {w : World} {σ : Store} {K : AV → Store → Prop} {v : Value} {av : AV} (hR : Rel g w σ) (h : s.run P w = .ok v w) (hv : VR g w av v) (hk : K av σ) :
    RunS P s g w σ K := ⟨v, w, g, av, σ, h, hR, .refl _ _ _, hv, hk⟩

section
variable {P : Program} {g : Ghost} {w : World} {σ : Store} {K : AV → Store → Prop}

theorem run_typeInfo {t : TypeId} {i : TypeInfo} (h : P.info? t = some i) (w : World) : (typeInfo t).run P w = .ok i w := by
  simp [typeInfo, h]
theorem run_underlying' {t : TypeId} {d : TypeDesc} (h : P.underlying t = some d) (w : World) : (underlying t).run P w = .ok d w := by
  simp [underlying, h]
theorem run_sizeOf' {t : TypeId} {i : TypeInfo} (h : P.info? t = some i) (w : World) : (sizeOf t).run P w = .ok i.size w := by
  simp [sizeOf, run_typeInfo h]
theorem run_isAgg' {t : TypeId} {b : Bool} (h : tyAg P t = some b) (w : World) : (isAgg t).run P w = .ok b w := by
  unfold tyAg at h
  split at h
  · rename_i hu; cases h; simp [isAgg, run_underlying' hu]
  · rename_i hu; cases h; simp [isAgg, run_underlying' hu]
  · rename_i d h1 h2 hu; cases h
    simp only [isAgg, Sem.run_bind, run_underlying' hu, Result.andThen_ok]
    cases d <;> first | rfl | exact absurd hu (h1 _) | exact absurd hu (h2 _ _)
  · cases h
theorem run_zero {t : TypeId} {z : AV} (h : tyZero P t = some z) (w : World) : ∃ v, (zeroValue t).run P w = .ok v w ∧ ∀ g w, VR g w z v ∧ z.cells.all AV.scalar = true := by
  unfold tyZero at h
  cases hi : P.info? t with
  | none => simp [hi] at h
  | some i =>
    simp only [hi, Option.bind_some] at h
    cases hz : i.zero with
    | none => simp [hz] at h
    | some v =>
      simp only [hz, Option.bind_some] at h
      exact ⟨v, by simp [zeroValue, run_typeInfo hi, hz], fun g w => cAV_rel h g w⟩

theorem row_alloc (w : World) (vs : Array Value) (t : TypeId) : Row (w.alloc (.cells vs t)) w.heap.size vs := by
  refine ⟨t, (0, 0), heap_alloc_new w _, fun i _ => ?_⟩
  exact World.frozen?_alloc_new w vs t i

/-- A new variable. -/
theorem new_cells (hR : Rel g w σ) (t : TypeId) {cs : List AV} {vs : Array Value} (hs : cs.all AV.scalar = true) (hl : cs.length = vs.size)
    (h : ∀ i, i < cs.length → VR g w (cs.getD i .undef) (vs.getD i Go.undef))
    (T : Option TypeId) (hT : T = none ∨ T = some t) : ∃ g', Rel g' (w.alloc (.cells vs t)) (σ ++ [.cellsT T cs]) ∧ Evo σ g w (σ ++ [.cellsT T cs]) g' (w.alloc (.cells vs t)) ∧
      VR g' (w.alloc (.cells vs t)) (.ref σ.length 0) (.pointer (some ⟨w.heap.size, 0, none⟩)) := by
  have hm := alloc_mono_push g w (.cells vs t) 0 (some w.heap.size) 0 hR.lt
  have hty : TyOk (w.alloc (.cells vs t)) w.heap.size cs.length T := by
    rcases hT with rfl | rfl
    · trivial
    · have : (w.alloc (.cells vs t)).heap[w.heap.size]? = some (.cells vs t) := by show (w.heap.push _)[w.heap.size]? = _; simp
      simp only [TyOk, World.shape?, this, hl]
  obtain ⟨h1, h2⟩ := hR.allocObj (.cells vs t) (.cellsT T cs) 0 0
    ⟨by simp [Ghost.push], hs, w.heap.size, vs, by simp [Ghost.push], row_alloc w vs t, hl.symm, fun i hi => (h i hi).mono hm, hty⟩
  refine ⟨_, h1, h2, .ref _ _ _ ⟨by simp [Ghost.push, hR.len], _, rfl, fun _ => ⟨by simp [Ghost.push, hR.len], rfl⟩⟩⟩

theorem alloc_sound {t : TypeId} {T : Option TypeId} (hT : T = none ∨ T = some t) {z : AV} (hR : Rel g w σ) (hz : tyZero P t = some z) (hK : K (.ref σ.length 0) (σ ++ [.cellsT T z.cells])) :
    RunS P (Instr.alloc t true (.tuple #[])) g w σ K := by
  obtain ⟨v, h1, h2⟩ := run_zero hz w
  obtain ⟨h3, h4⟩ := h2 g w
  obtain ⟨h5, h6⟩ := cells_rel h3 h4
  obtain ⟨g', r1, r2, r3⟩ := new_cells hR t h4 h5 h6 T hT
  refine ⟨_, _, g', _, _, ?_, r1, r2, r3, hK⟩
  simp [Instr.alloc, h1, newVar, newRow]

theorem box_sound {t : TypeId} {a : AV} {v : Value} (hR : Rel g w σ) (hv : VR g w a v) (hs : a.cells.all AV.scalar = true) (hK : K (.ref σ.length 0) (σ ++ [.cells a.cells])) :
    RunS P (Instr.box t v) g w σ K := by
  obtain ⟨h5, h6⟩ := cells_rel hv hs
  obtain ⟨g', r1, r2, r3⟩ := new_cells hR t hs h5 h6 none (.inl rfl)
  refine ⟨_, _, g', _, _, ?_, r1, r2, r3, hK⟩
  simp [Instr.box, newVar, newRow]

/-! ### Loads -/

theorem run_loadCells {b o : Nat} {n : Nat} (hc : ∀ c, c < n → (w.cell? ⟨b, o + c, none⟩).isSome = true) :
    ∀ (i : Nat) (acc : Array Value) (m : Nat), i + m = n → (loadCellsFrom ⟨b, o, none⟩ i m acc).run P w = .ok (acc ++ ((List.range' i m).map fun c => cellD w ⟨b, o + c, none⟩).toArray) w := by
  intro i acc m
  induction m generalizing i acc with
  | zero => intro _; simp [loadCellsFrom]
  | succ m ih =>
    intro hi
    have h1 := hc i (by omega)
    have ha : (⟨b, o, none⟩ : Addr).add i = ⟨b, o + i, none⟩ := by
      unfold Addr.add; split
      · rename_i h0; subst h0; rfl
      · rfl
    obtain ⟨v, hv⟩ := Option.isSome_iff_exists.1 h1
    simp only [loadCellsFrom, Sem.run_bind, run_load, ha, hv, Result.andThen_ok]
    rw [ih (i + 1) (acc.push v) (by omega)]
    simp [List.range'_succ, cellD, hv]

theorem load_rel {t : TypeId} {ag : Bool} {i : TypeInfo} {b o : Nat} (hA : tyAg P t = some ag) (hi : P.info? t = some i) (h1 : ag = false → i.size = 1)
    (hc : ∀ c, c < i.size → (w.cell? ⟨b, o + c, none⟩).isSome = true) :
    (loadVar t ⟨b, o, none⟩).run P w = .ok (if ag then .agg ((List.range i.size).map fun c => cellD w ⟨b, o + c, none⟩).toArray else cellD w ⟨b, o, none⟩) w := by
  cases ag with
  | true =>
    have := run_loadCells (P := P) hc 0 #[] i.size (by omega)
    simp [loadVar, run_isAgg' hA, run_sizeOf' hi, loadCells, this, List.range_eq_range']
  | false =>
    have h2 := hc 0 (by rw [h1 rfl]; omega)
    obtain ⟨v, hv⟩ := Option.isSome_iff_exists.1 h2
    simp only [Nat.add_zero] at hv
    simp [loadVar, run_isAgg' hA, hv, cellD]

end
end Go.AM
