/- Part of a proof: see Root. -/
import Derived.Test.YtnfendddolhcoaaGreatDoorW06
import Derived.IntWalk
set_option linter.unnecessarySimpa false
set_option linter.unusedSectionVars false
set_option linter.unusedSimpArgs false
set_option linter.unusedVariables false
namespace Go.AM
section
variable {P : Program} {g : Ghost} {w : World} {σ : Store} {K : AV → Store → Prop}
theorem build_array_sound {t : TypeId} {n : Nat} {el : TypeId} {fi : TypeInfo} {z : AV} {e : Env} {a : Act} {nt : Nat} {parts : Array (Nat × Operand)} {ps : List ((Nat × Nat) × AX)} (hR : Rel g w σ) (hE : EnvR nt g w e a.tmps)
    (hz : tyZero P t = some z) (hu : P.underlying t = some (.array n el)) (hi : P.info? el = some fi)
    (hp : cParts nt (fun i => some (i * P.cellsOf el, P.cellsOf el)) parts.toList = some ps)
    (hK : buildA z.cells e (ps.map fun p => (p.1.1, p.1.2, p.2)) fun cs => K (.agg cs) σ) : RunS P (Instr.build t (parts.map fun (i, x) => (i, a.eval x))) g w σ K := by
  obtain ⟨v, h1, h2⟩ := run_zero hz w
  obtain ⟨h3, h4⟩ := h2 g w
  obtain ⟨h5, h6⟩ := cells_rel h3 h4
  obtain ⟨cs', us, r1, r2, r3, r4, r5, r6⟩ := fill_sound (fun i => some (i * P.cellsOf el, P.cellsOf el)) hE parts.toList ps z.cells v.cells _ hp h5 h6 h4 hK
  refine RunS.pure hR (v := .agg us) ?_ (.agg cs' us r2 r4 r3) r6
  have hc : P.cellsOf el = fi.size := by simp [Program.cellsOf, hi]
  simp only [Instr.build, Sem.run_bind, h1, Result.andThen_ok, run_underlying' hu, run_sizeOf' hi]
  have hfill : Instr.fill (fun i => some (i * fi.size, fi.size)) v.cells (parts.map fun (i, x) => (i, a.eval x)).toList = some us := by
    rw [← r1, hc]
    congr 1
    simp
  rw [hfill]
  rfl
theorem cells_fits {el : El} {a : AV} (h : a.fits el = true) : a.cells.all AV.scalar = true ∧ a.cells.length = el.sz ∧ ∀ c, c < el.sz → a.cells.getD c .undef = a.cell c := by
  cases a <;> simp only [AV.fits, Bool.and_eq_true, beq_iff_eq] at h <;> first
    | (obtain ⟨⟨_, h2⟩, h3⟩ := h; exact ⟨h3, h2, fun _ _ => rfl⟩)
    | (obtain ⟨_, h2⟩ := h; exact ⟨rfl, by simp [AV.cells, h2], fun c hc => by rw [show c = 0 from by omega]; rfl⟩)
    | cases h
theorem fillS_sound {el : El} {e : Env} {a : Act} {nt : Nat} (hE : EnvR nt g w e a.tmps) : ∀ (parts : List (Nat × Operand)) (ps : List (Nat × AX)) (xs : List AV) (vs : Array Value) (K : List AV → Prop),
    cParts nt some parts = some ps → vs.size = xs.length * el.sz → HoldsEl g w el xs vs → (∀ i, i < xs.length → (xs.getD i .undef).fits el = true) → bsliceA el xs e ps K →
    ∃ xs' us, Instr.fill (fun i => some (i * el.sz, el.sz)) vs (parts.map fun p => (p.1, a.eval p.2)) = some us ∧ us.size = xs'.length * el.sz ∧ xs'.length = xs.length ∧ HoldsEl g w el xs' us ∧ (∀ i, i < xs'.length → (xs'.getD i .undef).fits el = true) ∧ K xs' := by
  intro parts
  induction parts with
  | nil =>
    intro ps xs vs K h hs hh hf hK
    cases h
    exact ⟨xs, vs, rfl, hs, rfl, hh, hf, hK⟩
  | cons p parts ih =>
    intro ps xs vs K h hs hh hf hK
    obtain ⟨i, x⟩ := p
    simp only [cParts] at h
    split at h
    · rename_i q ax ps' h1 h2 h3
      cases h1
      cases h
      simp only [bsliceA] at hK
      obtain ⟨k1, k2, k3⟩ := hK
      have hv := cX_rel h2 hE
      obtain ⟨f1, f2, f3⟩ := cells_fits k1
      obtain ⟨c1, c2⟩ := cells_rel hv f1
      have hrow : i * el.sz + el.sz ≤ vs.size := by
        rw [hs]
        calc i * el.sz + el.sz = (i + 1) * el.sz := by rw [Nat.succ_mul]
          _ ≤ xs.length * el.sz := Nat.mul_le_mul_right _ k2
      have hput : ∀ (us : List Value) (vs : Array Value) (off j : Nat), off + j + us.length ≤ vs.size → (us.zipIdx j).foldl (fun cs (p : Value × Nat) => cs.setIfInBounds (off + p.2) p.1) vs = putRow vs (off + j) us := by
        intro us
        induction us with
        | nil => intros; rfl
        | cons u us ih =>
          intro vs off j hh
          simp only [List.length_cons] at hh
          simp only [List.zipIdx_cons, List.foldl_cons, putRow]
          exact ih _ off (j + 1) (by simp; omega)
      have hfold : (a.eval x).cells.zipIdx.foldl (fun cs (p : Value × Nat) => cs.setIfInBounds (i * el.sz + p.2) p.1) vs = putRow vs (i * el.sz) (a.eval x).cells.toList := by
        have := hput (a.eval x).cells.toList vs (i * el.sz) 0 (by simp; omega)
        rw [← Array.foldl_toList, Array.toList_zipIdx]
        simpa using this
      obtain ⟨xs', us, r1, r2, r3, r4, r5, r6⟩ := ih ps' (xs.set i (ax.ev e)) (putRow vs (i * el.sz) (a.eval x).cells.toList) K h3 (by rw [size_putRow]; simpa using hs)
        (fun j c hj hc => by
          simp only [List.length_set] at hj
          rw [getD_putRow _ _ _ (by simp; omega)]
          simp only [Array.length_toList, ← c1, f2]
          by_cases ej : j = i
          · subst ej
            rw [if_pos (by omega), show (xs.set j (ax.ev e)).getD j .undef = ax.ev e by simp [k2], show j * el.sz + c - j * el.sz = c by omega, ← f3 c hc]
            simpa using c2 c (by omega)
          · have hne : ¬ (i * el.sz ≤ j * el.sz + c ∧ j * el.sz + c < i * el.sz + el.sz) := by
              rintro ⟨q1, q2⟩
              rcases Nat.lt_or_gt_of_ne ej with h2 | h2
              · have : (j + 1) * el.sz ≤ i * el.sz := Nat.mul_le_mul_right _ h2
                rw [Nat.succ_mul] at this
                omega
              · have : (i + 1) * el.sz ≤ j * el.sz := Nat.mul_le_mul_right _ h2
                rw [Nat.succ_mul] at this
                omega
            rw [if_neg hne, show (xs.set i (ax.ev e)).getD j .undef = xs.getD j .undef by simp [List.getElem?_set_ne (Ne.symm ej)]]
            exact hh j c hj hc)
        (fun j hj => by
          simp only [List.length_set] at hj
          by_cases ej : j = i
          · subst ej; simpa [k2] using k1
          · have := hf j hj
            simpa [List.getElem?_set_ne (Ne.symm ej)] using this) k3
      refine ⟨xs', us, ?_, r2, by rw [r3]; simp, r4, r5, r6⟩
      simp only [List.map_cons, Instr.fill]
      have e1 : ¬ ((a.eval x).cells.size ≠ el.sz ∨ vs.size < i * el.sz + (a.eval x).cells.size) := by omega
      rw [if_neg (by simpa using e1), hfold]
      exact r1
    · cases h
theorem zeros_hold {el : El} {z : AV} {v : Value} (n : Nat) (hz : VR g w z v) (hf : z.fits el = true) (hv : v.cells.size = el.sz) :
    HoldsEl g w el (List.replicate n z) ((Array.range (n * el.sz)).map (v.cells[· % v.cells.size]!)) := by
  intro i c hi hc
  simp only [List.length_replicate] at hi
  have h2 := idx_lt hi hc
  obtain ⟨f1, f2, f3⟩ := cells_fits hf
  obtain ⟨c1, c2⟩ := cells_rel hz f1
  have h3 : (i * el.sz + c) % el.sz = c := by rw [Nat.mul_comm, Nat.mul_add_mod]; exact Nat.mod_eq_of_lt hc
  have := c2 c (by omega)
  rw [f3 c hc] at this
  have e1 : (List.replicate n z).getD i .undef = z := by simp [hi]
  rw [e1]
  have e2 : ((Array.range (n * el.sz)).map (v.cells[· % v.cells.size]!)).getD (i * el.sz + c) Go.undef = v.cells.getD c Go.undef := by
    have h4 : c < v.cells.size := by omega
    have h5 : v.cells[c]! = v.cells[c] := getElem!_pos v.cells c h4
    have h6 : v.cells.getD c Go.undef = v.cells[c] := by rw [← Array.getElem_eq_getD (h := h4)]
    rw [h6, ← h5]
    simp [h2, hv, h3]
  rw [e2]; exact this
theorem tyZero_size {e : TypeId} {el : El} {z : AV} (he : tyEl P e = some el) (hz : tyZero P e = some z) : ∃ v, (∀ w, (zeroValue e).run P w = .ok v w) ∧ (∀ g w, VR g w z v) ∧ v.cells.size = el.sz := by
  obtain ⟨fi, hi, _, hs, _, _, _, v, hv, hvs⟩ := tyEl_spec he
  simp only [tyZero, hi, hv, Option.bind_some] at hz
  exact ⟨v, fun w => by simp [zeroValue, run_typeInfo hi, hv], fun g w => (cAV_rel hz g w).1, hvs⟩
theorem new_vec (hR : Rel g w σ) (e : TypeId) {el : El} {zs : List AV} {vs : Array Value} {cap : Nat} (k1 : zs.length ≤ cap) (k2 : vs.size = cap * el.sz) (k3 : HoldsEl g w el zs vs) (k4 : ∀ i, i < zs.length → (zs.getD i .undef).fits el = true) :
    ∃ g', Rel g' (World.alloc w (.cells vs e)) (σ ++ [.vec el zs]) ∧ Evo σ g w (σ ++ [.vec el zs]) g' (World.alloc w (.cells vs e)) ∧
      VR g' (World.alloc w (.cells vs e)) (.own el σ.length zs.length 0 zs.length) (.slice (some ⟨w.heap.size, 0, none⟩) zs.length cap) := by
  have hm := alloc_mono_push g w (.cells vs e) zs.length (some w.heap.size) cap hR.lt
  obtain ⟨r1, r2⟩ := hR.allocObj (.cells vs e) (.vec el zs) zs.length cap
    ⟨by simp [Ghost.push], k4, .inr ⟨w.heap.size, vs, by simp [Ghost.push], rowE_alloc _ _ vs e, by simp [Ghost.push, k2], by simp [Ghost.push, k1], fun i c hi hc => by simp only [Ghost.push, if_true, Nat.zero_add]; exact (k3 i c hi hc).mono hm, trivial⟩⟩
  exact ⟨_, r1, r2, .own _ _ _ _ _ _ ⟨by simp [Ghost.push, hR.len], by simp [Ghost.push, hR.len], _, _, rfl, fun _ => ⟨by omega, by simp [Ghost.push, hR.len], fun _ => by simp [Ghost.push, hR.len]⟩⟩⟩
theorem new_lst (hR : Rel g w σ) (e : TypeId) {el : El} {zs : List AV} {vs : Array Value} (k2 : vs.size = zs.length * el.sz) (k3 : HoldsEl g w el zs vs) (k4 : ∀ i, i < zs.length → (zs.getD i .undef).fits el = true) :
    ∃ g', Rel g' (World.alloc w (.cells vs e)) σ ∧ Evo σ g w σ g' (World.alloc w (.cells vs e)) ∧
      VR g' (World.alloc w (.cells vs e)) (.lst true el zs) (.slice (some ⟨w.heap.size, 0, none⟩) zs.length zs.length) := by
  have hm := alloc_mono_imm g w (.cells vs e) hR.lt
  obtain ⟨r1, r2⟩ := hR.allocImm (.cells vs e)
  have hcell : ∀ i c, i < zs.length → c < el.sz → (World.alloc w (.cells vs e)).cell? ⟨w.heap.size, 0 + (i * el.sz + c), none⟩ = some (vs.getD (i * el.sz + c) Go.undef) := fun i c hi hc => by
    have h2 := idx_lt hi hc
    rw [Nat.zero_add]
    exact (row_alloc w vs e).cell (by omega)
  exact ⟨_, r1, r2, .lst true el zs w.heap.size 0 zs.length (.inr rfl) (fun _ => rfl) (Nat.le_refl _) k4 (fun i c hi hc => by rw [hcell i c hi hc]; rfl) (fun i c hi hc => by unfold cellD; rw [hcell i c hi hc]; exact (k3 i c hi hc).mono hm)⟩
theorem bslice_sound {t e : TypeId} {el : El} {z : AV} {mt : Bool} {n : Nat} {en : Env} {a : Act} {nt : Nat} {parts : Array (Nat × Operand)} {ps : List (Nat × AX)} (hR : Rel g w σ) (hE : EnvR nt g w en a.tmps)
    (hu : P.underlying t = some (.slice e)) (he : tyEl P e = some el) (hz : tyZero P e = some z) (hn : n * el.sz ≤ 2 ^ 24) (hzf : z.fits el = true) (hp : cParts nt some parts.toList = some ps)
    (hK : bsliceA el (List.replicate n z) en ps fun xs => if mt then K (.own el σ.length n 0 n) (σ ++ [.vec el xs]) else K (.lst true el xs) σ) :
    RunS P (Instr.buildSlice t n (parts.map fun (i, x) => (i, a.eval x))) g w σ K := by
  obtain ⟨v, z1, z2, z3⟩ := tyZero_size he hz
  obtain ⟨fi, hi, _, hs, _⟩ := tyEl_spec he
  obtain ⟨xs, us, r1, r2, r3, r4, r5, r6⟩ := fillS_sound (g := g) (w := w) (el := el) hE parts.toList ps (List.replicate n z) ((Array.range (n * el.sz)).map (v.cells[· % v.cells.size]!)) _ hp (by simp) (zeros_hold n (z2 g w) hzf z3)
    (fun i hi => by simp only [List.length_replicate] at hi; simpa [hi] using hzf) hK
  simp only [List.length_replicate] at r3
  have run : (Instr.buildSlice t n (parts.map fun (i, x) => (i, a.eval x))).run P w = .ok (.slice (some ⟨w.heap.size, 0, none⟩) n n) (World.alloc w (.cells us e)) := by
    have hn' : ¬ (n * el.sz > 2 ^ 24) := by omega
    have hfill : Instr.fill (fun i => some (i * el.sz, el.sz)) ((Array.range (n * el.sz)).map (v.cells[· % v.cells.size]!)) (parts.map fun (i, x) => (i, a.eval x)).toList = some us := by
      rw [← r1]; congr 1; simp
    simp only [Instr.buildSlice, Sem.run_bind, run_underlying' hu, Result.andThen_ok, run_sizeOf' hi, hs, if_neg hn']
    by_cases h0 : n * el.sz = 0
    · simp only [if_pos h0]
      rw [Sem.run_bind, Sem.run_pure, Result.andThen_ok]
      have hfill' : Instr.fill (fun i => some (i * el.sz, el.sz)) ((Array.range (n * el.sz)).map ((#[] : Array Value)[· % (#[] : Array Value).size]!)) (parts.map fun (i, x) => (i, a.eval x)).toList = some us := by
        rw [← hfill]; congr 1; simp [h0]
      rw [hfill']
      rfl
    · simp only [if_neg h0]
      rw [Sem.run_bind, z1, Result.andThen_ok, Sem.run_bind, Sem.run_pure, Result.andThen_ok]
      rw [hfill]
      rfl
  cases mt with
  | true =>
    simp only [if_true] at r6
    obtain ⟨g', q1, q2, q3⟩ := new_vec hR e (cap := n) (by omega) (by rw [r2, r3]) r4 r5
    rw [r3] at q3
    exact ⟨_, _, g', _, _, run, q1, q2, q3, r6⟩
  | false =>
    simp only [Bool.false_eq_true, if_false] at r6
    obtain ⟨g', q1, q2, q3⟩ := new_lst hR e r2 r4 r5
    rw [r3] at q3
    exact ⟨_, _, g', _, _, run, q1, q2, q3, r6⟩
theorem mkslice_sound {t e : TypeId} {el : El} {z x y : AV} {a b : Value} (hR : Rel g w σ) (hu : P.underlying t = some (.slice e)) (he : tyEl P e = some el) (hz : tyZero P e = some z) (hx : VR g w x a) (hy : VR g w y b)
    (hK : match (generalizing := false) x, y with
      | .int .i64 k, .int .i64 m => z.fits el = true ∧ 0 ≤ k ∧ k ≤ m ∧ m * (el.sz + 1) ≤ 2 ^ 40 ∧ K (.own el σ.length k.toNat 0 k.toNat) (σ ++ [.vec el (List.replicate k.toNat z)])
      | _, _ => False) : RunS P (Instr.makeSlice t a b) g w σ K := by
  obtain ⟨v, z1, z2, z3⟩ := tyZero_size he hz
  obtain ⟨fi, hi, _, hs, _, hb, hsz, _⟩ := tyEl_spec he
  cases hx <;> (try exact False.elim hK)
  rename_i k1 k
  cases hy <;> (try (cases k1 <;> exact False.elim hK))
  rename_i k2 m
  cases k1 <;> (try exact False.elim hK)
  cases k2 <;> (try exact False.elim hK)
  simp only at hK
  obtain ⟨h1, h2, h3, h4, h5⟩ := hK
  obtain ⟨k, rfl⟩ := Int.eq_ofNat_of_zero_le h2
  obtain ⟨m, rfl⟩ := Int.eq_ofNat_of_zero_le (Int.le_trans h2 h3)
  have h4' : m * (el.sz + 1) ≤ 2 ^ 40 := by exact_mod_cast h4
  have hm : m ≤ 2 ^ 40 := Nat.le_trans (Nat.le_mul_of_pos_right m (by omega)) h4'
  have h40 : (2:Nat) ^ 40 = 1099511627776 := by decide
  have hkm : k ≤ m := by omega
  have wrapm : ∀ j : Nat, j ≤ m → IntKind.i64.wrap (j : Int) = j := fun j hj => IntWalk.i64_in _ (by omega)
  have hbm : fi.bytes * m ≤ 2 ^ 48 := by
    have h6 : fi.bytes * m ≤ 24 * (el.sz + 1) * m := Nat.mul_le_mul_right _ hb
    have h7 : 24 * (el.sz + 1) * m = 24 * (m * (el.sz + 1)) := by rw [Nat.mul_assoc, Nat.mul_comm (el.sz + 1) m]
    have h48 : (2:Nat) ^ 48 = 281474976710656 := by decide
    omega
  have htl : ∀ j : Nat, j ≤ m → ((decide ((j : Int) < 0) || decide (((fi.bytes : Nat) : Int) * (j : Int) > 2 ^ 48)) = false) := fun j hj => by
    have : fi.bytes * j ≤ 2 ^ 48 := Nat.le_trans (Nat.mul_le_mul_left _ hj) hbm
    have h9 : ((fi.bytes : Nat) : Int) * (j : Int) ≤ 2 ^ 48 := by exact_mod_cast this
    simp only [Bool.or_eq_false_iff, decide_eq_false_iff_not]
    exact ⟨by omega, by omega⟩
  have hsz' : ((Array.range (m * el.sz)).map (v.cells[· % v.cells.size]!)).size = m * el.sz := by simp
  obtain ⟨g', q1, q2, q3⟩ := new_vec hR e (el := el) (zs := List.replicate k z) (vs := (Array.range (m * el.sz)).map (v.cells[· % v.cells.size]!)) (cap := m) (by simpa using hkm) hsz'
    (fun i c hi hc => by
      have := zeros_hold m (z2 g w) h1 z3 i c (by simp at hi ⊢; omega) hc
      simp only [List.length_replicate] at hi
      rw [show (List.replicate k z).getD i .undef = z by simp [hi]]
      rwa [show (List.replicate m z).getD i .undef = z by simp [show i < m by omega]] at this)
    (fun i hi => by simp only [List.length_replicate] at hi; simpa [hi] using h1)
  simp only [List.length_replicate] at q3
  refine ⟨_, _, g', _, _, ?_, q1, q2, q3, by simpa using h5⟩
  unfold Instr.makeSlice
  simp only [Sem.run_bind, run_underlying' hu, Result.andThen_ok, asInt, asIntOf, Sem.run_pure, run_typeInfo hi, wrapm k hkm, wrapm m (Nat.le_refl _)]
  have hcond : ¬ (((decide ((m : Int) < 0) || decide (((fi.bytes : Nat) : Int) * (m : Int) > 2 ^ 48)) || decide ((k : Int) < 0) || decide ((k : Int) > (m : Int))) = true) := by
    rw [htl m (Nat.le_refl _)]
    simp; omega
  rw [if_neg hcond]
  simp only [Sem.run_bind, run_askRoom, Result.andThen_ok, run_sizeOf' hi, hs, Int.toNat_natCast]
  by_cases h0 : m * el.sz = 0
  · simp only [if_pos h0, Sem.run_pure, Result.andThen_ok, newRow, Sem.run_bind, run_newObj]
    have e9 : ∀ f : Nat → Value, (Array.range (m * el.sz)).map f = #[] := fun f => by simp [h0]
    rw [e9, e9]
    rfl
  · simp only [if_neg h0, Sem.run_bind, z1, Result.andThen_ok, Sem.run_pure, newRow, run_newObj]
    rfl
theorem new_vecAt {l : Nat} (hR : Rel g w σ) (hn : σ[l]? = some .resv) (e : TypeId) {el : El} {zs : List AV} {vs : Array Value} {cap : Nat} (k0 : 0 < zs.length) (k1 : zs.length ≤ cap) (k2 : vs.size = cap * el.sz) (k3 : HoldsEl g w el zs vs) (k4 : ∀ i, i < zs.length → (zs.getD i .undef).fits el = true) :
    ∃ g', Rel g' (World.alloc w (.cells vs e)) (σ.set l (.vec el zs)) ∧ Evo σ g w (σ.set l (.vec el zs)) g' (World.alloc w (.cells vs e)) ∧
      VR g' (World.alloc w (.cells vs e)) (.own el l zs.length 0 zs.length) (.slice (some ⟨w.heap.size, 0, none⟩) zs.length cap) := by
  obtain ⟨hv0, hb0, _⟩ := hR.ok l _ hn
  have hnn : l < g.n := by rw [← hR.len]; exact (List.getElem?_eq_some_iff.1 hn).1
  obtain ⟨r1, r2⟩ := hR.change (w' := w.alloc (.cells vs e)) (o' := .vec el zs) hn rfl zs.length (some w.heap.size) cap 0 (by omega) (fun h => by omega) (by simp) rfl rfl rfl
    (fun b hb _ => heap_alloc_old w _ hb) (fun b hb => by cases hb; exact .inr (Nat.le_refl _))
    (fun hm => ⟨by simp [Ghost.reset], k4, .inr ⟨w.heap.size, vs, by simp [Ghost.reset], rowE_alloc _ _ vs e, by simp [Ghost.reset, k2], by simp [Ghost.reset, k1], fun i c hi hc => by simp only [Ghost.reset, if_true, Nat.zero_add]; exact (k3 i c hi hc).mono hm, trivial⟩⟩)
  exact ⟨_, r1, r2, .own _ _ _ _ _ _ ⟨by simp [Ghost.reset]; exact hnn, by simp [Ghost.reset], _, _, rfl, fun _ => ⟨by omega, by simp [Ghost.reset], fun _ => by simp [Ghost.reset]⟩⟩⟩
theorem mksAt_sound {t e : TypeId} {el : El} {z x y : AV} {a b : Value} {l : Nat} (hR : Rel g w σ) (hn : σ[l]? = some .resv) (hu : P.underlying t = some (.slice e)) (he : tyEl P e = some el) (hz : tyZero P e = some z) (hx : VR g w x a) (hy : VR g w y b)
    (hK : match (generalizing := false) x, y with
      | .int .i64 k, .int .i64 m => z.fits el = true ∧ 0 < k ∧ k ≤ m ∧ m * (el.sz + 1) ≤ 2 ^ 40 ∧ K (.own el l k.toNat 0 k.toNat) (σ.set l (.vec el (List.replicate k.toNat z)))
      | _, _ => False) : RunS P (Instr.makeSlice t a b) g w σ K := by
  obtain ⟨v, z1, z2, z3⟩ := tyZero_size he hz
  obtain ⟨fi, hi, _, hs, _, hb, hsz, _⟩ := tyEl_spec he
  cases hx <;> (try exact False.elim hK)
  rename_i k1 k
  cases hy <;> (try (cases k1 <;> exact False.elim hK))
  rename_i k2 m
  cases k1 <;> (try exact False.elim hK)
  cases k2 <;> (try exact False.elim hK)
  simp only at hK
  obtain ⟨h1, h2, h3, h4, h5⟩ := hK
  have hpos := h2
  replace h2 := Int.le_of_lt h2
  obtain ⟨k, rfl⟩ := Int.eq_ofNat_of_zero_le h2
  obtain ⟨m, rfl⟩ := Int.eq_ofNat_of_zero_le (Int.le_trans h2 h3)
  have h4' : m * (el.sz + 1) ≤ 2 ^ 40 := by exact_mod_cast h4
  have hm : m ≤ 2 ^ 40 := Nat.le_trans (Nat.le_mul_of_pos_right m (by omega)) h4'
  have h40 : (2:Nat) ^ 40 = 1099511627776 := by decide
  have hkm : k ≤ m := by omega
  have wrapm : ∀ j : Nat, j ≤ m → IntKind.i64.wrap (j : Int) = j := fun j hj => IntWalk.i64_in _ (by omega)
  have hbm : fi.bytes * m ≤ 2 ^ 48 := by
    have h6 : fi.bytes * m ≤ 24 * (el.sz + 1) * m := Nat.mul_le_mul_right _ hb
    have h7 : 24 * (el.sz + 1) * m = 24 * (m * (el.sz + 1)) := by rw [Nat.mul_assoc, Nat.mul_comm (el.sz + 1) m]
    have h48 : (2:Nat) ^ 48 = 281474976710656 := by decide
    omega
  have htl : ∀ j : Nat, j ≤ m → ((decide ((j : Int) < 0) || decide (((fi.bytes : Nat) : Int) * (j : Int) > 2 ^ 48)) = false) := fun j hj => by
    have : fi.bytes * j ≤ 2 ^ 48 := Nat.le_trans (Nat.mul_le_mul_left _ hj) hbm
    have h9 : ((fi.bytes : Nat) : Int) * (j : Int) ≤ 2 ^ 48 := by exact_mod_cast this
    simp only [Bool.or_eq_false_iff, decide_eq_false_iff_not]
    exact ⟨by omega, by omega⟩
  have hsz' : ((Array.range (m * el.sz)).map (v.cells[· % v.cells.size]!)).size = m * el.sz := by simp
  obtain ⟨g', q1, q2, q3⟩ := new_vecAt hR hn e (el := el) (zs := List.replicate k z) (vs := (Array.range (m * el.sz)).map (v.cells[· % v.cells.size]!)) (cap := m) (by simp; omega) (by simpa using hkm) hsz'
    (fun i c hi hc => by
      have := zeros_hold m (z2 g w) h1 z3 i c (by simp at hi ⊢; omega) hc
      simp only [List.length_replicate] at hi
      rw [show (List.replicate k z).getD i .undef = z by simp [hi]]
      rwa [show (List.replicate m z).getD i .undef = z by simp [show i < m by omega]] at this)
    (fun i hi => by simp only [List.length_replicate] at hi; simpa [hi] using h1)
  simp only [List.length_replicate] at q3
  refine ⟨_, _, g', _, _, ?_, q1, q2, q3, by simpa using h5⟩
  unfold Instr.makeSlice
  simp only [Sem.run_bind, run_underlying' hu, Result.andThen_ok, asInt, asIntOf, Sem.run_pure, run_typeInfo hi, wrapm k hkm, wrapm m (Nat.le_refl _)]
  have hcond : ¬ (((decide ((m : Int) < 0) || decide (((fi.bytes : Nat) : Int) * (m : Int) > 2 ^ 48)) || decide ((k : Int) < 0) || decide ((k : Int) > (m : Int))) = true) := by
    rw [htl m (Nat.le_refl _)]
    simp; omega
  rw [if_neg hcond]
  simp only [Sem.run_bind, run_askRoom, Result.andThen_ok, run_sizeOf' hi, hs, Int.toNat_natCast]
  by_cases h0 : m * el.sz = 0
  · simp only [if_pos h0, Sem.run_pure, Result.andThen_ok, newRow, Sem.run_bind, run_newObj]
    have e9 : ∀ f : Nat → Value, (Array.range (m * el.sz)).map f = #[] := fun f => by simp [h0]
    rw [e9, e9]
    rfl
  · simp only [if_neg h0, Sem.run_bind, z1, Result.andThen_ok, Sem.run_pure, newRow, run_newObj]
    rfl
theorem s2b_sound {t u e : TypeId} {fi : TypeInfo} {x : AV} {a : Value} (hR : Rel g w σ) (hs : P.underlying t = some .string) (hu : P.underlying u = some (.slice e)) (he : P.underlying e = some (.int .u8)) (hx : VR g w x a)
    (hK : match (generalizing := false) x with
      | .str s => s.length ≤ 2 ^ 40 ∧ K (.own ⟨false, 1⟩ σ.length s.length 0 s.length) (σ ++ [.vec ⟨false, 1⟩ (s.map fun b => .int .u8 b.toNat)])
      | _ => False) : RunS P (convert t u a) g w σ K := by
  cases hx <;> simp only at hK
  case str s =>
    obtain ⟨h1, hK⟩ := hK
    let q : Question := .appendCap s.length 0 e
    let cap := q.cut (w.tape w.drawn q)
    have hcap : s.length ≤ cap := by simp only [cap, q, Question.cut]; omega
    have hsz : (⟨s.toArray⟩ : ByteArray).size = s.length := List.size_toArray
    let vs : Array Value := (s.toArray.map fun b => Value.int .u8 b.toNat) ++ Array.replicate (cap - s.length) (.int .u8 0)
    have hvs : vs.size = cap := by simp [vs]; omega
    let w1 : World := { w with drawn := w.drawn + 1 }
    let w2 : World := World.alloc w1 (.cells vs e (vs.size, vs.size + 1))
    have hR' := hR.drew (w.drawn + 1)
    have hm := alloc_mono_push g w1 (.cells vs e (vs.size, vs.size + 1)) s.length (some w.heap.size) cap hR'.lt
    have hrow : Row w2 w.heap.size vs := ⟨e, _, heap_alloc_new w1 _, fun i hi => by
      have := heap_alloc_new w1 (.cells vs e (vs.size, vs.size + 1))
      simp only [World.frozen?, show w2.heap[w.heap.size]? = some (.cells vs e (vs.size, vs.size + 1)) from this]
      simp; omega⟩
    obtain ⟨r1, r2⟩ := hR'.allocObj (.cells vs e (vs.size, vs.size + 1)) (.vec ⟨false, 1⟩ (s.map fun b => .int .u8 b.toNat)) s.length cap
      ⟨by simp [Ghost.push], fun i hi => by simp at hi; simp [hi, AV.fits], .inr ⟨w.heap.size, vs, by simp [Ghost.push, w1], ⟨hrow, fun h => by cases h⟩, by simp [Ghost.push, hvs], by simp [Ghost.push, hcap], fun i c hi hc => by
        simp only [List.length_map] at hi
        have : c = 0 := by simp at hc; omega
        subst this
        have e1 : vs.getD (i * 1 + 0) Go.undef = .int .u8 (s[i]).toNat := by
          have h3 : i < (s.toArray.map fun b => Value.int .u8 b.toNat).size := by simpa using hi
          simp only [Nat.mul_one, Nat.add_zero, vs]
          rw [Array.getD_eq_getD_getElem?, Array.getElem?_append_left h3]
          simp [hi]
        simp only [Ghost.push, if_true, Nat.zero_add]
        rw [e1]
        simp [hi, AV.cell]
        exact .int _ _, trivial⟩⟩
    refine ⟨.slice (some ⟨w.heap.size, 0, none⟩) s.length cap, w2, _, _, _, ?_, r1, (Evo.drew σ g w (w.drawn + 1)).trans r2,
      .own _ _ _ _ _ _ ⟨by simp [Ghost.push, hR.len], by simp [Ghost.push, hR.len], _, _, rfl, fun _ => ⟨by omega, by simp [Ghost.push, hR.len], fun _ => by simp [Ghost.push, hR.len, w1]⟩⟩, hK⟩
    have hrun : ∀ vs' : Array Value, vs' = vs → (do
        let a ← newRow e vs'
        markStringish a
        pure (Value.slice (some a) s.length cap) : Sem Value).run P w1 = .ok (.slice (some ⟨w.heap.size, 0, none⟩) s.length cap) w2 := fun vs' hv => by
      subst hv
      simp only [newRow, markStringish, Sem.run_bind, run_newObj, Result.andThen_ok, Sem.run_pure, run_shape]
      have h1 : (World.alloc w1 (.cells vs e)).heap[w.heap.size]? = some (.cells vs e) := heap_alloc_new w1 _
      have h2 : (World.alloc w1 (.cells vs e)).shape? w.heap.size = some (e, vs.size) := by simp only [World.shape?, h1]
      rw [show ({ w1 with heap := w1.heap.push (.cells vs e) } : World) = World.alloc w1 (.cells vs e) from rfl]
      rw [show w1.heap.size = w.heap.size from rfl, h2]
      simp only [run_freeze, Result.andThen_ok]
      congr 1
      simp only [World.freeze, w2, World.alloc]
      rw [if_neg (by omega)]
      congr 1
      apply Array.ext_getElem?
      intro i
      rw [Array.getElem?_modify]
      by_cases hi : w.heap.size = i
      · subst hi
        rw [if_pos rfl]
        have e1 : (w1.heap.push (.cells vs e))[w.heap.size]? = some (.cells vs e) := h1
        have e2 : (w1.heap.push (.cells vs e (vs.size, vs.size + 1)))[w.heap.size]? = some (.cells vs e (vs.size, vs.size + 1)) := heap_alloc_new w1 _
        rw [e1, e2]
        rfl
      · rw [if_neg hi, Array.getElem?_push, Array.getElem?_push]
        have : ¬ i = w1.heap.size := fun h => hi h.symm
        rw [if_neg this, if_neg this]
    have hvs' : ((⟨s.toArray⟩ : ByteArray).data.map fun b => Value.int .u8 b.toNat) ++ Array.replicate (cap - s.length) (Value.int .u8 0) = vs := rfl
    have := hrun _ hvs'
    simp only [Sem.run_bind] at this
    simp only [convert, Sem.run_bind, run_underlying' hs, run_underlying' hu, Result.andThen_ok, run_underlying' he, Conv.stringToBytes, hsz]
    rw [run_choose]
    simp only [show (Question.appendCap s.length 0 e).forced = false from rfl, Bool.false_eq_true, if_false, Result.andThen_ok]
    exact this
theorem b2s_sound {t u e : TypeId} {x : AV} {a : Value} (hR : Rel g w σ) (hs : P.underlying t = some (.slice e)) (hu : P.underlying u = some .string) (he : P.underlying e = some (.int .u8)) (hx : VR g w x a)
    (hK : listA σ ⟨false, 1⟩ x fun xs => ∃ s : List UInt8, xs = s.map (fun b => AV.int .u8 b.toNat) ∧ K (.str s) σ) (hsl : ∃ A n c, a = .slice A n c) : RunS P (convert t u a) g w σ K := by
  obtain ⟨xs, us, ⟨s, hxs, hK⟩, hl, hfc, hsz, hh⟩ := list_cells (P := P) hR hx hK
  obtain ⟨A, n, c, rfl⟩ := hsl
  subst hxs
  simp only [List.length_map, Nat.mul_one] at hl hfc hsz
  have hus : us = (s.map fun b => Value.int .u8 b.toNat).toArray := by
    apply Array.ext
    · simp [hsz]
    · intro i h1 h2
      have := hh i 0 (by simp; omega) (by simp)
      simp only [Nat.mul_one, Nat.add_zero] at this
      rw [← Array.getElem_eq_getD (h := h1)] at this
      have h3 : i < s.length := by omega
      have e1 : ((s.map fun b => AV.int .u8 b.toNat).getD i .undef).cell 0 = .int .u8 (s[i]).toNat := by simp [h3, AV.cell]
      rw [e1] at this
      cases h4 : us[i] with
      | int k m => rw [h4] at this; cases this; simp
      | _ => rw [h4] at this; cases this
  simp only [Builtin.lenOf, Sem.run_pure] at hl
  cases hl
  have loop : ∀ (f : Value → ByteArray → Sem (ForInStep ByteArray)), (∀ (b : UInt8) (r : ByteArray), f (.int .u8 b.toNat) r = Pure.pure (.yield (r.push b))) → ∀ (l : List UInt8) (acc : ByteArray) (w : World), (forIn (l.map fun b => Value.int .u8 b.toNat) acc f).run P w = .ok (l.foldl ByteArray.push acc) w := by
    intro f hf l
    induction l with
    | nil => intro acc w; rfl
    | cons b l ih =>
      intro acc w
      simp only [List.map_cons, List.forIn_cons, hf, Sem.run_bind, Sem.run_pure, Result.andThen_ok, List.foldl_cons]
      exact ih _ w
  have hpush : ∀ (l : List UInt8) (acc : ByteArray), (l.foldl ByteArray.push acc) = ⟨acc.data ++ l.toArray⟩ := by
    intro l
    induction l with
    | nil => intro acc; simp
    | cons b l ih => intro acc; rw [List.foldl_cons, ih]; simp [ByteArray.push]
  refine RunS.pure hR (v := .string ⟨s.toArray⟩) ?_ (.str s) hK
  simp only [convert, Sem.run_bind, run_underlying' hs, run_underlying' hu, Result.andThen_ok, run_underlying' he]
  cases A with
  | none =>
    have : s = [] := by
      have := hfc w rfl
      simp only [Builtin.firstCells, Sem.run_pure] at this
      cases this
      have : (0 : Nat) = s.length := by simpa using hsz
      exact List.eq_nil_of_length_eq_zero this.symm
    subst this
    rfl
  | some A =>
    have h1 := hfc w rfl
    simp only [Builtin.firstCells, Nat.mul_one] at h1
    simp only [Conv.bytesToString, Sem.run_bind, h1, Result.andThen_ok]
    rw [hus, ← Array.forIn_toList]
    rw [show (List.map (fun b => Value.int .u8 (b.toNat : Int)) s).toArray.toList = List.map (fun b => Value.int .u8 (b.toNat : Int)) s from rfl]
    rw [loop _ (fun b r => by simp) s ByteArray.empty w, hpush]
    simp
theorem guard_nil {op : BinOp} {t : TypeId} {ox oy : Operand} (hop : op = .eql ∨ op = .neq) (hc : isNilConst ox = true ∨ isNilConst oy = true) (a b : Value) (ha : ∀ cs, a ≠ .agg cs) (w : World) :
    (eqGuard op t ox oy a b).run P w = .ok () w := by
  by_cases h : a = .nilIface ∧ b = .nilIface
  · obtain ⟨rfl, rfl⟩ := h
    rcases hc with h | h
    · cases ox <;> simp only [isNilConst] at h <;> first
        | (cases h; done)
        | (rcases hop with rfl | rfl <;> rfl)
    · cases oy <;> simp only [isNilConst] at h <;> first
        | (cases h; done)
        | (rcases hop with rfl | rfl <;> cases ox <;> rfl)
  · rcases hop with rfl | rfl <;> cases a <;> first
      | exact absurd rfl (ha _)
      | rfl
      | (cases b <;> first | rfl | exact absurd ⟨rfl, rfl⟩ h)
theorem isNil_ifc {t : TypeId} {ms : Array (String × TypeId)} (hu : P.underlying t = some (.interface ms)) (u : TypeId) (x : Value) (D : Nat) (w : World) :
    (Op.equalIn (D + 1) t .nilIface .nilIface).run P w = .ok true w ∧ (Op.equalIn (D + 1) t .nilIface (.iface u x)).run P w = .ok false w ∧ (Op.equalIn (D + 1) t (.iface u x) .nilIface).run P w = .ok false w := by
  refine ⟨?_, ?_, ?_⟩ <;> simp [Op.equalIn, run_underlying' hu]
theorem isNil_fn {t : TypeId} {ps rs : Array TypeId} {vd : Bool} (hu : P.underlying t = some (.func ps rs vd)) (u : Fn) (x y : Array Value) (D : Nat) (w : World) :
    (Op.equalIn (D + 1) t .nilFunc .nilFunc).run P w = .ok true w ∧ (Op.equalIn (D + 1) t .nilFunc (.func u x y)).run P w = .ok false w ∧ (Op.equalIn (D + 1) t (.func u x y) .nilFunc).run P w = .ok false w := by
  refine ⟨?_, ?_, ?_⟩ <;> simp [Op.equalIn, run_underlying' hu]
theorem isNil_map {t : TypeId} {kt et : TypeId} (hu : P.underlying t = some (.map kt et)) (p : Option Nat) (D : Nat) (w : World) :
    (Op.equalIn (D + 1) t (.map none) (.map p)).run P w = .ok p.isNone w ∧ (Op.equalIn (D + 1) t (.map p) (.map none)).run P w = .ok p.isNone w := by
  constructor
  · simp [Op.equalIn, run_underlying' hu]
  · cases p <;> simp [Op.equalIn, run_underlying' hu]
theorem eqnil_sound {op : BinOp} {t : TypeId} {k : NK} {x y : AV} {a b : Value} {ox oy : Operand} {d : TypeDesc} (hop : op = .eql ∨ op = .neq) (hR : Rel g w σ) (hu : P.underlying t = some d)
    (hd : nilKind d = some k) (hc : isNilConst ox = true ∨ isNilConst oy = true) (hx : VR g w x a) (hy : VR g w y b)
    (hK : match (generalizing := false) nilEq k x y with
      | some r => K (.bool (if op = .neq then !r else r)) σ
      | none => False) : RunS P (do eqGuard op t ox oy a b; binOp op t a b) g w σ K := by
  have fin : ∀ r, (eqGuard op t ox oy a b).run P w = .ok () w → (Op.equalIn 10000 t a b).run P w = .ok r w → (∀ k n, a ≠ .int k n) → (∀ k n, a ≠ .float k n) → (∀ k n m, a ≠ .complex k n m) → (∀ s, a ≠ .string s) →
      K (.bool (if op = .neq then !r else r)) σ → RunS P (do eqGuard op t ox oy a b; binOp op t a b) g w σ K := by
    intro r h1 h2 n1 n2 n3 n4 hk
    refine RunS.pure hR (v := .bool (if op = .neq then !r else r)) ?_ (.bool _) hk
    simp only [Sem.run_bind, h1, Result.andThen_ok]
    have e1 : (binOp .eql t a b).run P w = .ok (.bool r) w := by
      cases a <;> first
        | exact absurd rfl (n1 _ _)
        | exact absurd rfl (n2 _ _)
        | exact absurd rfl (n3 _ _ _)
        | exact absurd rfl (n4 _)
        | simp [binOp, Op.equal, Op.maxDepth, h2]
    have e2 : (binOp .neq t a b).run P w = .ok (.bool (!r)) w := by
      cases a <;> first
        | exact absurd rfl (n1 _ _)
        | exact absurd rfl (n2 _ _)
        | exact absurd rfl (n3 _ _ _)
        | exact absurd rfl (n4 _)
        | simp [binOp, Op.equal, Op.maxDepth, h2]
    rcases hop with rfl | rfl
    · exact e1
    · exact e2
  have hguard : ∀ (_ : True), (∀ cs, a ≠ .agg cs) → (eqGuard op t ox oy a b).run P w = .ok () w := fun _ ha => guard_nil hop hc a b ha w
  cases d <;> simp only [nilKind] at hd <;> (try cases hd)
  case pointer.refl elem =>
    have run1 : ∀ p : Option Addr, (Op.equalIn 10000 t (.pointer none) (.pointer p)).run P w = .ok p.isNone w := fun p => (isNil_ptr hu p 9999).1
    have run2 : ∀ p : Option Addr, (Op.equalIn 10000 t (.pointer p) (.pointer none)).run P w = .ok p.isNone w := fun p => (isNil_ptr hu p 9999).2
    have ptr : ∀ (z : AV) (v : Value) (r : Bool), VR g w z v → isNilK .p z = some r → ∃ p, v = .pointer p ∧ p.isNone = r := by
      intro z v r hz h
      cases hz <;> simp only [isNilK] at h <;> (try cases h)
      case ref.refl h => obtain ⟨_, A, rfl, _⟩ := h; exact ⟨_, rfl, rfl⟩
      case eref.refl => exact ⟨_, rfl, rfl⟩
      case vref.refl h => obtain ⟨_, _, A, rfl, _⟩ := h; exact ⟨_, rfl, rfl⟩
      case nilp.refl => exact ⟨_, rfl, rfl⟩
    simp only [nilEq] at hK
    split at hK
    · rename_i r hr
      split at hr
      · rename_i r' h1 h2
        cases hr
        obtain ⟨p, rfl, hp⟩ := ptr _ _ _ hx h1
        obtain ⟨q, rfl, hq⟩ := ptr _ _ _ hy h2
        have : p = none := by simpa using hp
        subst this
        exact fin _ (hguard trivial (by simp)) (by rw [run1, hq]) (by simp) (by simp) (by simp) (by simp) hK
      · rename_i h1 h2
        cases hr
        obtain ⟨p, rfl, hp⟩ := ptr _ _ _ hx h1
        obtain ⟨q, rfl, hq⟩ := ptr _ _ _ hy h2
        have : q = none := by simpa using hq
        subst this
        exact fin _ (hguard trivial (by simp)) (by rw [run2, hp]) (by simp) (by simp) (by simp) (by simp) hK
      · cases hr
    · exact hK.elim
  case interface.refl ms =>
    have ifc : ∀ (z : AV) (v : Value) (r : Bool), VR g w z v → isNilK .i z = some r → (r = true ∧ v = .nilIface) ∨ (r = false ∧ ∃ u x, v = .iface u x) := by
      intro z v r hz h
      cases hz <;> simp only [isNilK] at h <;> (try cases h)
      case nili.refl => exact .inl ⟨rfl, rfl⟩
      case ifc.refl => exact .inr ⟨rfl, _, _, rfl⟩
    simp only [nilEq] at hK
    split at hK
    · rename_i r hr
      split at hr
      · rename_i r' h1 h2
        cases hr
        rcases ifc _ _ _ hx h1 with ⟨_, rfl⟩ | ⟨e, _⟩
        · rcases ifc _ _ _ hy h2 with ⟨rfl, rfl⟩ | ⟨rfl, u, v, rfl⟩
          · exact fin true (hguard trivial (by simp)) (isNil_ifc hu 0 .nilIface 9999 w).1 (by simp) (by simp) (by simp) (by simp) hK
          · exact fin false (hguard trivial (by simp)) (isNil_ifc hu u v 9999 w).2.1 (by simp) (by simp) (by simp) (by simp) hK
        · cases e
      · rename_i h1 h2
        cases hr
        rcases ifc _ _ _ hx h1 with ⟨e, _⟩ | ⟨_, u, v, rfl⟩
        · cases e
        · rcases ifc _ _ _ hy h2 with ⟨_, rfl⟩ | ⟨e, _⟩
          · exact fin false (hguard trivial (by simp)) (isNil_ifc hu u v 9999 w).2.2 (by simp) (by simp) (by simp) (by simp) hK
          · cases e
      · cases hr
    · exact hK.elim
  case func.refl ps rs vd =>
    have fnk : ∀ (z : AV) (v : Value) (r : Bool), VR g w z v → isNilK .f z = some r → (r = true ∧ v = .nilFunc) ∨ (r = false ∧ ∃ u x y, v = .func u x y) := by
      intro z v r hz h
      cases hz <;> simp only [isNilK] at h <;> (try cases h)
      case nilf.refl => exact .inl ⟨rfl, rfl⟩
      case fn.refl => exact .inr ⟨rfl, _, _, _, rfl⟩
    simp only [nilEq] at hK
    split at hK
    · rename_i r hr
      split at hr
      · rename_i r' h1 h2
        cases hr
        rcases fnk _ _ _ hx h1 with ⟨_, rfl⟩ | ⟨e, _⟩
        · rcases fnk _ _ _ hy h2 with ⟨rfl, rfl⟩ | ⟨rfl, u, v, z, rfl⟩
          · exact fin true (hguard trivial (by simp)) (isNil_fn hu (.func 0) #[] #[] 9999 w).1 (by simp) (by simp) (by simp) (by simp) hK
          · exact fin false (hguard trivial (by simp)) (isNil_fn hu u v z 9999 w).2.1 (by simp) (by simp) (by simp) (by simp) hK
        · cases e
      · rename_i h1 h2
        cases hr
        rcases fnk _ _ _ hx h1 with ⟨e, _⟩ | ⟨_, u, v, z, rfl⟩
        · cases e
        · rcases fnk _ _ _ hy h2 with ⟨_, rfl⟩ | ⟨e, _⟩
          · exact fin false (hguard trivial (by simp)) (isNil_fn hu u v z 9999 w).2.2 (by simp) (by simp) (by simp) (by simp) hK
          · cases e
      · cases hr
    · exact hK.elim
  case map.refl kt et =>
    have mpk : ∀ (z : AV) (v : Value) (r : Bool), VR g w z v → isNilK .m z = some r → ∃ p, v = .map p ∧ p.isNone = r := by
      intro z v r hz h
      cases hz <;> simp only [isNilK] at h <;> (try cases h)
      case nilm.refl => exact ⟨_, rfl, rfl⟩
      case mp.refl h => obtain ⟨_, A, rfl, _⟩ := h; exact ⟨_, rfl, rfl⟩
    simp only [nilEq] at hK
    split at hK
    · rename_i r hr
      split at hr
      · rename_i r' h1 h2
        cases hr
        obtain ⟨p, rfl, hp⟩ := mpk _ _ _ hx h1
        obtain ⟨q, rfl, hq⟩ := mpk _ _ _ hy h2
        have : p = none := by simpa using hp
        subst this
        exact fin _ (hguard trivial (by simp)) (by rw [← hq]; exact (isNil_map hu q 9999 w).1) (by simp) (by simp) (by simp) (by simp) hK
      · rename_i h1 h2
        cases hr
        obtain ⟨p, rfl, hp⟩ := mpk _ _ _ hx h1
        obtain ⟨q, rfl, hq⟩ := mpk _ _ _ hy h2
        have : q = none := by simpa using hq
        subst this
        exact fin _ (hguard trivial (by simp)) (by rw [← hp]; exact (isNil_map hu p 9999 w).2) (by simp) (by simp) (by simp) (by simp) hK
      · cases hr
    · exact hK.elim
theorem isNil_sl {t e : TypeId} (hu : P.underlying t = some (.slice e)) (p : Option Addr) (n cap D : Nat) (w : World) : (Op.equalIn (D + 1) t (.slice p n cap) (.slice none 0 0)).run P w = .ok p.isNone w := by
  cases p <;> simp [Op.equalIn, run_underlying' hu]
theorem nilS_sound {op : BinOp} {t e : TypeId} {x : AV} {a : Value} {ox oy : Operand} (hop : op = .eql ∨ op = .neq) (hR : Rel g w σ) (hu : P.underlying t = some (.slice e)) (hx : VR g w x a)
    (hK : nilSA σ x fun r => K (.bool (if op = .neq then !r else r)) σ) : RunS P (do eqGuard op t ox oy a (.slice none 0 0); binOp op t a (.slice none 0 0)) g w σ K := by
  have fin : ∀ (p : Option Addr) (n cap : Nat), K (.bool (if op = .neq then !p.isNone else p.isNone)) σ → RunS P (do eqGuard op t ox oy (.slice p n cap) (.slice none 0 0); binOp op t (.slice p n cap) (.slice none 0 0)) g w σ K := by
    intro p n cap hk
    have h2 : (Op.equalIn 10000 t (.slice p n cap) (.slice none 0 0)).run P w = .ok p.isNone w := isNil_sl hu p n cap 9999 w
    have h1 : (eqGuard op t ox oy (.slice p n cap) (.slice none 0 0)).run P w = .ok () w := by rcases hop with rfl | rfl <;> rfl
    refine RunS.pure hR (v := .bool (if op = .neq then !p.isNone else p.isNone)) ?_ (.bool _) hk
    simp only [Sem.run_bind, h1, Result.andThen_ok]
    rcases hop with rfl | rfl <;> simp [binOp, Op.equal, Op.maxDepth, h2]
  unfold nilSA at hK
  cases hx <;> (try exact False.elim hK)
  case nils => exact fin none 0 0 hK
  case lst f el xs b off cap him hf hxc ft hc h =>
    cases xs with
    | nil => exact False.elim hK
    | cons x xs => exact fin (some _) _ _ hK
  case asl el p n A cap hn hc h => exact fin (some A) n cap hK
  case own el l m lo n h =>
    obtain ⟨q1, q2, A, cap, rfl, q3⟩ := h
    dsimp only at hK
    split at hK
    · rename_i T el' xs hxs
      obtain ⟨rfl, hn, hK⟩ := hK
      obtain ⟨o1, o2, o3⟩ := hR.ok l _ hxs
      obtain ⟨q4, q5, q6⟩ := q3 o1.symm
      rcases o3 with ⟨rfl, _, _⟩ | ⟨b, vs, b1, b2, b3, b4, b5⟩
      · simp at q4; omega
      have q7 := q6 (by omega)
      rw [b1] at q7
      simp only [Option.map_some] at q7
      subst q7
      exact fin (some _) n cap hK
    · exact hK.elim
theorem nilU_sound {op : BinOp} {t e : TypeId} {x : AV} {a : Value} {ox oy : Operand} (hop : op = .eql ∨ op = .neq) (hR : Rel g w σ) (hu : P.underlying t = some (.slice e)) (hx : VR g w x a)
    (hK : nilUA σ x fun r => K (.bool (if op = .neq then !r else r)) σ) : RunS P (do eqGuard op t ox oy a (.slice none 0 0); binOp op t a (.slice none 0 0)) g w σ K := by
  have fin : ∀ (p : Option Addr) (n cap : Nat), K (.bool (if op = .neq then !p.isNone else p.isNone)) σ → RunS P (do eqGuard op t ox oy (.slice p n cap) (.slice none 0 0); binOp op t (.slice p n cap) (.slice none 0 0)) g w σ K := by
    intro p n cap hk
    have h2 : (Op.equalIn 10000 t (.slice p n cap) (.slice none 0 0)).run P w = .ok p.isNone w := isNil_sl hu p n cap 9999 w
    have h1 : (eqGuard op t ox oy (.slice p n cap) (.slice none 0 0)).run P w = .ok () w := by rcases hop with rfl | rfl <;> rfl
    refine RunS.pure hR (v := .bool (if op = .neq then !p.isNone else p.isNone)) ?_ (.bool _) hk
    simp only [Sem.run_bind, h1, Result.andThen_ok]
    rcases hop with rfl | rfl <;> simp [binOp, Op.equal, Op.maxDepth, h2]
  by_cases he : ∃ f el, x = .lst f el []
  · obtain ⟨f, el, rfl⟩ := he
    obtain ⟨k1, k2⟩ := (show _ ∧ _ from hK)
    have both : ∀ p : Option Addr, K (.bool (if op = .neq then !p.isNone else p.isNone)) σ := fun p => by
      cases p
      · exact k1
      · exact k2
    cases hx with
    | lstE f el b cap hf => exact fin b 0 cap (both b)
    | lst f el xs b off cap him hf hxc ft hc h => exact fin (some _) _ _ k2
  replace hK : nilSA σ x fun r => K (.bool (if op = .neq then !r else r)) σ := by
    unfold nilUA at hK
    split at hK
    · exact absurd ⟨_, _, rfl⟩ he
    · exact hK
  exact nilS_sound hop hR hu hx hK
end
end Go.AM
