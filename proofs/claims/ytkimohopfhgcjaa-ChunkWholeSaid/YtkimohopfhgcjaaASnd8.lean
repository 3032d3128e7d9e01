/- Literals, appends. -/
import Derived.Test.YtkimohopfhgcjaaASnd7
namespace Go.AM
set_option linter.unusedSimpArgs false
set_option linter.unusedVariables false
set_option linter.unnecessarySimpa false
section
variable {P : Program} {g : Ghost} {w : World} {σ : Store} {K : AV → Store → Prop}

theorem eqf_sound {op : BinOp} {t : TypeId} {ks : List Kd} {ag : Bool} {i : TypeInfo} {x y : AV} {a b : Value} {ox oy : Operand} (hop : op = .eql ∨ op = .neq) (hR : Rel g w σ) (hf : flatKinds P 12 t = some ks) (hA : tyAg P t = some ag) (hi : P.info? t = some i)
    (hs : i.size = ks.length) (hg : ag = true → P.eqGuardType P.depth t = false) (hx : VR g w x a) (hy : VR g w y b)
    (hK : match (generalizing := false) (if ag then (match (generalizing := false) x, y with | .agg az, .agg bs => kdsEq ks az bs | _, _ => none) else kdsEq ks [x] [y]) with
      | some r => K (.bool (if op = .neq then !r else r)) σ
      | none => False) : RunS P (do eqGuard op t ox oy a b; binOp op t a b) g w σ K := by
  have len1 : ∀ (ks : List Kd) (az bs : List AV) (r : Bool), kdsEq ks az bs = some r → az.length = ks.length ∧ bs.length = ks.length := by
    intro ks
    induction ks with
    | nil => intro az bs r h; cases az <;> cases bs <;> simp [kdsEq] at h ⊢
    | cons k ks ih =>
      intro az bs r h
      cases az <;> cases bs <;> simp only [kdsEq] at h <;> (try cases h)
      split at h
      · rename_i h1 h2; have := ih _ _ _ h2; simp [this.1, this.2]
      · cases h
  cases ag with
  | true =>
    simp only [if_true] at hK
    cases hx <;> (try exact False.elim hK)
    cases hy <;> (try exact False.elim hK)
    case agg.agg az vs hl hsc h bs us hl' hsc' h' =>
      simp only at hK
      split at hK
      · rename_i r hr
        obtain ⟨l1, l2⟩ := len1 _ _ _ _ hr
        obtain ⟨v, u, p1, p2, p3⟩ := flat_run (P := P) (g := g) (w := w) 12 t ks 10000 vs us 0 az bs r hf (by omega) ⟨i, hi, hs⟩ l1 l2 (by omega) (by omega)
          (fun j hj => by simpa using h j (by omega)) (fun j hj => by simpa using h' j (by omega)) hr
        have e1 : v = .agg vs := by
          have : (part t vs 0).run P w = .ok (.agg (vs.extract 0 (0 + i.size))) w := by simp [part, run_isAgg' hA, run_sizeOf' hi]
          rw [this] at p1; cases p1
          rw [Nat.zero_add, show i.size = vs.size by omega]; simp
        have e2 : u = .agg us := by
          have : (part t us 0).run P w = .ok (.agg (us.extract 0 (0 + i.size))) w := by simp [part, run_isAgg' hA, run_sizeOf' hi]
          rw [this] at p2; cases p2
          rw [Nat.zero_add, show i.size = us.size by omega]; simp
        subst e1; subst e2
        refine RunS.pure hR (v := .bool (if op = .neq then !r else r)) ?_ (.bool _) hK
        simp only [Sem.run_bind, run_eqGuard_agg w op t ox oy vs us (hg rfl), Result.andThen_ok]
        rcases hop with rfl | rfl
        · rw [run_eql_struct, p3]; rfl
        · rw [run_neq_struct, p3]; rfl
      · exact hK.elim
  | false =>
    simp only [Bool.false_eq_true, if_false] at hK
    split at hK
    · rename_i r hr
      obtain ⟨l1, l2⟩ := len1 _ _ _ _ hr
      simp only [List.length_singleton] at l1
      match ks, l1 with
      | [k], _ =>
        -- the type is a scalar's
        have hd : ∃ d, P.underlying t = some d ∧ ((d = .bool ∧ k = .b) ∨ ((∃ q, d = .int q) ∧ k = .i) ∨ (d = .string ∧ k = .s)) := by
          unfold flatKinds at hf
          split at hf
          · rename_i hu; cases hf; exact ⟨_, hu, .inl ⟨rfl, rfl⟩⟩
          · rename_i q hu; cases hf; exact ⟨_, hu, .inr (.inl ⟨⟨q, rfl⟩, rfl⟩)⟩
          · rename_i hu; cases hf; exact ⟨_, hu, .inr (.inr ⟨rfl, rfl⟩)⟩
          · rename_i fs hu; simp [tyAg, hu] at hA
          · cases hf
        obtain ⟨d, hu, hd⟩ := hd
        simp only [kdsEq] at hr
        split at hr
        · rename_i r1 r2 h1 h2
          cases h2; cases hr
          simp only [Bool.and_true] at *
          rcases kdEq_vals h1 hx hy with ⟨rfl, x', y', rfl, rfl, rfl⟩ | ⟨rfl, q, x', y', rfl, rfl, rfl⟩ | ⟨rfl, x', y', rfl, rfl, rfl⟩
          · rcases hd with ⟨rfl, _⟩ | ⟨_, e⟩ | ⟨_, e⟩
            · refine RunS.pure hR (v := .bool (if op = .neq then !(x' == y') else (x' == y'))) ?_ (.bool _) hK
              rcases hop with rfl | rfl <;> simp [eqGuard, binOp, Op.equal, Op.maxDepth, run_equalIn_bool' w 9999 t x' y' hu]
            · cases e
            · cases e
          · refine RunS.pure hR (v := .bool (if op = .neq then !(x' == y') else (x' == y'))) ?_ (.bool _) hK
            rcases hop with rfl | rfl <;> simp [eqGuard, binOp, Op.intCmp, bne]
          · refine RunS.pure hR (v := .bool (if op = .neq then !(x' == y') else (x' == y'))) ?_ (.bool _) hK
            rcases hop with rfl | rfl <;> simp [eqGuard, binOp, Op.stringOp, baList]
        · cases hr
    · exact hK.elim

/-- A comparison of integers or texts asks no guard. -/
theorem bing_sound {op : BinOp} {t : TypeId} {x y : AV} {a b : Value} {ox oy : Operand} (hR : Rel g w σ) (hx : VR g w x a) (hy : VR g w y b)
    (hK : binA op x y fun v => K v σ) : RunS P (do eqGuard op t ox oy a b; binOp op t a b) g w σ K := by
  have hg : (eqGuard op t ox oy a b).run P w = .ok () w := by
    cases hx <;> cases hy <;> (try (cases op <;> exact hK.elim)) <;> cases op <;> rfl
  obtain ⟨v, w', g', av, σ', h1, h2⟩ := bin_sound (P := P) (t := t) hR hx hy hK
  exact ⟨v, w', g', av, σ', by simp only [Sem.run_bind, hg, Result.andThen_ok, h1], h2⟩

/-! ### Nil -/

theorem isNil_ptr {elem : TypeId} {t : TypeId} (hu : P.underlying t = some (.pointer elem)) (p : Option Addr) (D : Nat) :
    (Op.equalIn (D + 1) t (.pointer none) (.pointer p)).run P w = .ok p.isNone w ∧ (Op.equalIn (D + 1) t (.pointer p) (.pointer none)).run P w = .ok p.isNone w := by
  constructor
  · simp [Op.equalIn, run_underlying' hu]
  · cases p <;> simp [Op.equalIn, run_underlying' hu]

/-! ### Literals -/

theorem fill_sound (place : Nat → Option (Nat × Nat)) {e : Env} {a : Act} {nt : Nat} (hE : EnvR nt g w e a.tmps) : ∀ (parts : List (Nat × Operand)) (ps : List ((Nat × Nat) × AX)) (cs : List AV) (vs : Array Value) (K : List AV → Prop),
    cParts nt place parts = some ps → cs.length = vs.size → (∀ i, i < cs.length → VR g w (cs.getD i .undef) (vs.getD i Go.undef)) → cs.all AV.scalar = true →
    buildA cs e (ps.map fun p => (p.1.1, p.1.2, p.2)) K →
    ∃ cs' us, Instr.fill place vs (parts.map fun p => (p.1, a.eval p.2)) = some us ∧ cs'.length = us.size ∧ (∀ i, i < cs'.length → VR g w (cs'.getD i .undef) (us.getD i Go.undef)) ∧ cs'.all AV.scalar = true ∧ us.size = vs.size ∧ K cs' := by
  intro parts
  induction parts with
  | nil =>
    intro ps cs vs K h hl hr hs hK
    cases h
    exact ⟨cs, vs, rfl, hl, hr, hs, rfl, hK⟩
  | cons p parts ih =>
    intro ps cs vs K h hl hr hs hK
    obtain ⟨i, x⟩ := p
    simp only [cParts] at h
    split at h
    · rename_i q ax ps' h1 h2 h3
      cases h
      obtain ⟨off, n⟩ := q
      simp only [List.map_cons, buildA] at hK
      obtain ⟨k1, k2, k3, k4⟩ := hK
      have hv := cX_rel h2 hE
      obtain ⟨c1, c2⟩ := cells_rel hv k2
      have hput : ∀ (us : List Value) (vs : Array Value) (j : Nat), off + j + us.length ≤ vs.size → (us.zipIdx j).foldl (fun cs (p : Value × Nat) => cs.setIfInBounds (off + p.2) p.1) vs = putRow vs (off + j) us := by
        intro us
        induction us with
        | nil => intros; rfl
        | cons u us ih =>
          intro vs j hh
          simp only [List.length_cons] at hh
          simp only [List.zipIdx_cons, List.foldl_cons, putRow]
          exact ih _ (j + 1) (by simp; omega)
      have hfold : (a.eval x).cells.zipIdx.foldl (fun cs (p : Value × Nat) => cs.setIfInBounds (off + p.2) p.1) vs = putRow vs off (a.eval x).cells.toList := by
        have := hput (a.eval x).cells.toList vs 0 (by simp; omega)
        rw [← Array.foldl_toList, Array.toList_zipIdx]
        simpa using this
      obtain ⟨cs', us, r1, r2, r3, r4, r5, r6⟩ := ih ps' (setMany cs off (ax.ev e).cells) (putRow vs off (a.eval x).cells.toList) K h3 (by rw [length_setMany, size_putRow]; exact hl)
        (fun j hj => by
          rw [length_setMany] at hj
          rw [getD_setMany _ _ _ (by omega), getD_putRow _ _ _ (by simp; omega)]
          simp only [Array.length_toList, ← c1]
          split
          · rename_i hh
            simpa using c2 (j - off) (by omega)
          · exact hr j hj) (all_setMany hs off k2) k4
      refine ⟨cs', us, ?_, r2, r3, r4, by rw [r5, size_putRow], r6⟩
      simp only [List.map_cons, Instr.fill, h1]
      have e1 : ¬ ((a.eval x).cells.size ≠ n ∨ vs.size < off + (a.eval x).cells.size) := by omega
      rw [if_neg (by simpa using e1), hfold]
      exact r1
    · cases h

theorem build_struct_sound {t : TypeId} {fs : Array Field} {z : AV} {e : Env} {a : Act} {nt : Nat} {parts : Array (Nat × Operand)} {ps : List ((Nat × Nat) × AX)} (hR : Rel g w σ) (hE : EnvR nt g w e a.tmps)
    (hz : tyZero P t = some z) (hzs : z.cells.all AV.scalar = true) (hu : P.underlying t = some (.struct fs)) (hfs : fs.toList.all (fun f => (P.info? f.type).isSome) = true)
    (hp : cParts nt (fun i => (fs[i]?).map fun f => (f.offset, P.cellsOf f.type)) parts.toList = some ps)
    (hK : buildA z.cells e (ps.map fun p => (p.1.1, p.1.2, p.2)) fun cs => K (.agg cs) σ) : RunS P (Instr.build t (parts.map fun (i, x) => (i, a.eval x))) g w σ K := by
  obtain ⟨v, h1, h2⟩ := run_zero hz w
  obtain ⟨h3, h4⟩ := h2 g w
  obtain ⟨h5, h6⟩ := cells_rel h3 h4
  have hplaces : ∀ (l : List Field), l.all (fun f => (P.info? f.type).isSome) = true → (l.mapM fun f => (do pure (f.offset, ← sizeOf f.type) : Sem (Nat × Nat))).run P w = .ok (l.map fun f => (f.offset, P.cellsOf f.type)) w := by
    intro l
    induction l with
    | nil => intro _; rfl
    | cons f l ih =>
      intro h
      simp only [List.all_cons, Bool.and_eq_true, Option.isSome_iff_exists] at h
      obtain ⟨⟨i, hi⟩, h'⟩ := h
      simp only [List.mapM_cons, Sem.run_bind, run_sizeOf' hi, Result.andThen_ok, Sem.run_pure, ih h', List.map_cons, Program.cellsOf, hi, Option.map_some, Option.getD_some]
  obtain ⟨cs', us, r1, r2, r3, r4, r5, r6⟩ := fill_sound (fun i => (fs[i]?).map fun f => (f.offset, P.cellsOf f.type)) hE parts.toList ps z.cells v.cells _ hp h5 h6 h4 hK
  refine RunS.pure hR (v := .agg us) ?_ (.agg cs' us r2 r4 r3) r6
  have hm : (fs.mapM fun f => (do pure (f.offset, ← sizeOf f.type) : Sem (Nat × Nat))).run P w = .ok (fs.map fun f => (f.offset, P.cellsOf f.type)) w := by
    have := hplaces fs.toList hfs
    rw [Array.mapM_eq_mapM_toList]
    simp only [Sem.run_map, this, Result.andThen_ok]
    congr 1
    apply Array.ext'
    simp
  simp only [Instr.build, Sem.run_bind, h1, Result.andThen_ok, run_underlying' hu, hm]
  have hfill : Instr.fill (fun i => (fs.map fun f => (f.offset, P.cellsOf f.type))[i]?) v.cells (parts.map fun (i, x) => (i, a.eval x)).toList = some us := by
    rw [← r1]
    congr 1
    · funext i; simp
    · simp
  rw [hfill]
  rfl

end
end Go.AM
