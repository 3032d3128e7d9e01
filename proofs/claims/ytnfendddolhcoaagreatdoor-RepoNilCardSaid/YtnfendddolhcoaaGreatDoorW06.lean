/- Part of a proof: see Root. -/
import Derived.Test.YtnfendddolhcoaaGreatDoorW05
set_option linter.unnecessarySimpa false
set_option linter.unusedSectionVars false
set_option linter.unusedSimpArgs false
set_option linter.unusedVariables false
namespace Go.AM
section
variable {P : Program} {g : Ghost} {w : World} {σ : Store} {K : AV → Store → Prop}
def HoldsEl (g : Ghost) (w : World) (el : El) (xs : List AV) (vs : Array Value) : Prop :=
  ∀ i c, i < xs.length → c < el.sz → VR g w ((xs.getD i .undef).cell c) (vs.getD (i * el.sz + c) Go.undef)
theorem HoldsEl.mono {g g' : Ghost} {w w' : World} {el : El} {xs : List AV} {vs : Array Value} (h : HoldsEl g w el xs vs) (hm : Mono g w g' w') : HoldsEl g' w' el xs vs :=
  fun i c hi hc => (h i c hi hc).mono hm
theorem idx_lt {i c n s : Nat} (hi : i < n) (hc : c < s) : i * s + c < n * s := by
  calc i * s + c < i * s + s := by omega
    _ = (i + 1) * s := by rw [Nat.succ_mul]
    _ ≤ n * s := Nat.mul_le_mul_right _ hi
theorem HoldsEl.append {el : El} {xs ys : List AV} {vs us rest : Array Value} (h : HoldsEl g w el xs vs) (h' : HoldsEl g w el ys us) (hv : vs.size = xs.length * el.sz) (hu : us.size = ys.length * el.sz) :
    HoldsEl g w el (xs ++ ys) (vs ++ us ++ rest) := by
  intro i c hi hc
  simp only [List.length_append] at hi
  by_cases h1 : i < xs.length
  · have h2 := idx_lt h1 hc
    have e1 : (xs ++ ys).getD i .undef = xs.getD i .undef := by simp [List.getElem?_append_left h1]
    have e2 : (vs ++ us ++ rest).getD (i * el.sz + c) Go.undef = vs.getD (i * el.sz + c) Go.undef := by
      have h3 : i * el.sz + c < vs.size := by omega
      have h4 : i * el.sz + c < (vs ++ us).size := by simp; omega
      simp [Array.getElem?_append_left h3, Array.getElem?_append_left h4]
    rw [e1, e2]; exact h i c h1 hc
  · obtain ⟨j, rfl⟩ : ∃ j, i = xs.length + j := ⟨i - xs.length, by omega⟩
    have hj : j < ys.length := by omega
    have h2 := idx_lt hj hc
    have e1 : (xs ++ ys).getD (xs.length + j) .undef = ys.getD j .undef := by simp [List.getElem?_append_right]
    have e3 : (xs.length + j) * el.sz + c = vs.size + (j * el.sz + c) := by rw [Nat.add_mul, hv]; omega
    have e2 : (vs ++ us ++ rest).getD ((xs.length + j) * el.sz + c) Go.undef = us.getD (j * el.sz + c) Go.undef := by
      rw [e3]
      have h4 : vs.size + (j * el.sz + c) < (vs ++ us).size := by simp; omega
      rw [Array.getD_eq_getD_getElem?, Array.getElem?_append_left h4, Array.getElem?_append_right (by omega)]
      simp
    rw [e1, e2]; exact h' j c hj hc
theorem cellsVals {b o n : Nat} (hc : ∀ c, c < n → (w.cell? ⟨b, o + c, none⟩).isSome = true) (w2 : World) (hw : w2.heap = w.heap) :
    (loadCells ⟨b, o, none⟩ n).run P w2 = .ok (((List.range n).map fun c => cellD w ⟨b, o + c, none⟩).toArray) w2 := by
  have e : ∀ a, w2.cell? a = w.cell? a := fun a => by simp only [World.cell?, hw]
  have := run_loadCells (P := P) (w := w2) (b := b) (o := o) (fun c h => by rw [e]; exact hc c h) 0 #[] n (by omega)
  simpa [loadCells, List.range_eq_range', cellD, e] using this
theorem list_cells {el : El} {x : AV} {v : Value} {K : List AV → Prop} (hR : Rel g w σ) (hv : VR g w x v) (hK : listA σ el x K) :
    ∃ xs : List AV, ∃ us : Array Value, K xs ∧ (Builtin.lenOf v).run P w = .ok xs.length w ∧ (∀ w2 : World, w2.heap = w.heap → (Builtin.firstCells el.sz xs.length v).run P w2 = .ok us w2) ∧ us.size = xs.length * el.sz ∧ HoldsEl g w el xs us := by
  cases hv <;> simp only [listA] at hK
  case str s =>
    obtain ⟨rfl, hK⟩ := hK
    have hs : (⟨s.toArray⟩ : ByteArray).size = s.length := List.size_toArray
    refine ⟨_, (s.map fun b => Value.int .u8 b.toNat).toArray, hK, by simp [Builtin.lenOf, hs], fun w2 _ => ?_, by simp, fun i c hi hc => ?_⟩
    · have : (⟨s.toArray⟩ : ByteArray).extract 0 s.length = ⟨s.toArray⟩ := by
        apply ByteArray.ext; simp [ByteArray.data_extract]
      simp [Builtin.firstCells, this]
    · have hc0 : c = 0 := by simp at hc; omega
      subst hc0
      simp only [List.length_map] at hi
      simp [hi, AV.cell]
      exact .int _ _
  case nils => exact ⟨[], #[], hK, rfl, fun _ _ => rfl, by simp, fun i c hi => absurd hi (Nat.not_lt_zero _)⟩
  case lstE f el' b cap hf =>
    obtain ⟨rfl, hK⟩ := hK
    refine ⟨[], #[], hK, rfl, fun w2 _ => ?_, by simp, fun i c hi => absurd hi (Nat.not_lt_zero _)⟩
    cases b with
    | none => rfl
    | some b => simp [Builtin.firstCells, loadCells, loadCellsFrom]
  case lst f el' xs b off cap hi hf hx ft hc h =>
    obtain ⟨rfl, hK⟩ := hK
    have hcells : ∀ c, c < xs.length * el'.sz → (w.cell? ⟨b, off + c, none⟩).isSome = true := fun c hcc => by
      have hz : 0 < el'.sz := by
        rcases Nat.eq_zero_or_pos el'.sz with e | e
        · rw [e] at hcc; simp at hcc
        · exact e
      have := hc (c / el'.sz) (c % el'.sz) ((Nat.div_lt_iff_lt_mul hz).2 hcc) (Nat.mod_lt _ hz)
      rwa [Nat.div_add_mod' c el'.sz] at this
    refine ⟨xs, _, hK, rfl, cellsVals hcells, by simp, fun i c hi' hcc => ?_⟩
    have h2 := idx_lt hi' hcc
    simpa [h2] using h i c hi' hcc
  case own el' l m lo n h =>
    obtain ⟨rfl, hK⟩ := hK
    obtain ⟨q1, q2, A, cap, rfl, q3⟩ := h
    split at hK
    · rename_i el'' xs hxs
      obtain ⟨rfl, rfl, hK⟩ := hK
      obtain ⟨o1, o2, o3⟩ := hR.ok l _ hxs
      obtain ⟨q4, q5, q6⟩ := q3 o1.symm
      have hlen : ((xs.drop lo).take n).length = n := by simp; omega
      refine ⟨(xs.drop lo).take n, ?_⟩
      rw [hlen]
      rcases Nat.eq_zero_or_pos n with rfl | hn
      · refine ⟨#[], hK, rfl, fun w2 _ => ?_, by simp, fun i c hi => by simp at hi⟩
        cases A with
        | none => rfl
        | some b => simp [Builtin.firstCells, loadCells, loadCellsFrom]
      · rcases o3 with ⟨rfl, _, _⟩ | ⟨b, vs, b1, b2, b3, b4, b5, _⟩
        · simp at q4; omega
        · have q7 := q6 (by omega)
          rw [b1] at q7
          simp only [Option.map_some] at q7
          subst q7
          have hrow : g.off l + lo * el''.sz + n * el''.sz ≤ vs.size := by
            have : lo * el''.sz + n * el''.sz ≤ g.cap l * el''.sz := by rw [← Nat.add_mul]; exact Nat.mul_le_mul_right _ (by omega)
            omega
          have hcells : ∀ c, c < n * el''.sz → w.cell? ⟨b, g.off l + lo * el''.sz + c, none⟩ = some (vs.getD (g.off l + lo * el''.sz + c) Go.undef) := fun c hcc => b2.cell (by omega)
          refine ⟨_, hK, rfl, cellsVals (fun c hcc => by rw [hcells c hcc]; rfl), by simp, fun i c hi' hcc => ?_⟩
          rw [hlen] at hi'
          have h2 := idx_lt hi' hcc
          rw [getD_drop_take hi']
          have e : (((List.range (n * el''.sz)).map fun c => cellD w ⟨b, g.off l + lo * el''.sz + c, none⟩).toArray).getD (i * el''.sz + c) Go.undef = vs.getD (g.off l + (lo + i) * el''.sz + c) Go.undef := by
            rw [show g.off l + (lo + i) * el''.sz + c = g.off l + lo * el''.sz + (i * el''.sz + c) by rw [Nat.add_mul]; omega]
            have := hcells _ h2
            simp [h2, cellD, this]
          rw [e]
          exact b5 (lo + i) c (by omega) hcc
    · exact hK.elim
  case asl el' p n A cap hn hc h =>
    obtain ⟨rfl, rfl, hK⟩ := hK
    obtain ⟨b, o, cs, rfl, h1, h2, h3, h4, h5⟩ := load_cells hR h hK
    refine ⟨cs, ((List.range (n * 1)).map fun c => cellD w ⟨b, o + c, none⟩).toArray, h3, by rw [h1]; rfl, ?_, by simp [h1], fun i c hi hcc => ?_⟩
    · rw [h1]; exact cellsVals (n := n * 1) (fun c hc => h4 c (by omega))
    · have hc0 : c = 0 := by simp at hcc; omega
      subst hc0
      have := h5 i (by omega)
      have hi' : i < n := by omega
      have hsc := scalar_get h2 hi
      have hcell : (cs.getD i .undef).cell 0 = cs.getD i .undef := by generalize cs.getD i .undef = z at hsc; cases z <;> first | rfl | (simp [AV.scalar] at hsc; done)
      rw [hcell]
      simpa [hi'] using this
theorem list_first {el : El} {x : AV} {v : Value} {K : List AV → Prop} (m : Nat) (hR : Rel g w σ) (hv : VR g w x v) (hK : listA σ el x K) :
    ∃ xs : List AV, ∃ us : Array Value, K xs ∧ (Builtin.lenOf v).run P w = .ok xs.length w ∧ (Builtin.firstCells el.sz (min xs.length m) v).run P w = .ok us w ∧ us.size = min xs.length m * el.sz ∧ HoldsEl g w el (xs.take m) us := by
  have rows : ∀ {b o n : Nat} {xs : List AV}, (∀ c, c < n * el.sz → (w.cell? ⟨b, o + c, none⟩).isSome = true) → n = min xs.length m → (∀ i c, i < xs.length → c < el.sz → VR g w ((xs.getD i .undef).cell c) (cellD w ⟨b, o + (i * el.sz + c), none⟩)) →
      ∃ us : Array Value, (loadCells ⟨b, o, none⟩ (min xs.length m * el.sz)).run P w = .ok us w ∧ us.size = min xs.length m * el.sz ∧ HoldsEl g w el (xs.take m) us := by
    intro b o n xs hc hn h
    subst hn
    refine ⟨_, cellsVals hc w rfl, by simp, fun i c hi hcc => ?_⟩
    simp only [List.length_take] at hi
    have hi1 : i < xs.length := by omega
    have hi2 : i < min xs.length m := by omega
    have h2 := idx_lt hi2 hcc
    rw [show (xs.take m).getD i .undef = xs.getD i .undef by simp [show i < m by omega]]
    simpa [h2] using h i c hi1 hcc
  cases hv <;> simp only [listA] at hK
  case str s =>
    obtain ⟨rfl, hK⟩ := hK
    have hs : (⟨s.toArray⟩ : ByteArray).size = s.length := List.size_toArray
    refine ⟨_, ((s.take m).map fun b => Value.int .u8 b.toNat).toArray, hK, by simp [Builtin.lenOf, hs], ?_, by simp; omega, fun i c hi hc => ?_⟩
    · have : (⟨s.toArray⟩ : ByteArray).extract 0 (min s.length m) = ⟨(s.take m).toArray⟩ := by
        apply ByteArray.ext; simp [ByteArray.data_extract, List.take_eq_take_iff]; omega
      simp [Builtin.firstCells, this]
    · have hc0 : c = 0 := by simp at hc; omega
      subst hc0
      simp only [List.length_take, List.length_map] at hi
      have h1 : i < s.length := by omega
      have h2 : i < m := by omega
      simp [h1, h2, AV.cell]
      exact .int _ _
  case nils => exact ⟨[], #[], hK, rfl, by simp [Builtin.firstCells], by simp, fun i c hi => by simp at hi⟩
  case lstE f el' b cap hf =>
    obtain ⟨rfl, hK⟩ := hK
    refine ⟨[], #[], hK, rfl, ?_, by simp, fun i c hi => by simp at hi⟩
    cases b with
    | none => simp [Builtin.firstCells]
    | some b => simp [Builtin.firstCells, loadCells, loadCellsFrom]
  case lst f el' xs b off cap hi hf hx ft hc h =>
    obtain ⟨rfl, hK⟩ := hK
    have hcells : ∀ c, c < min xs.length m * el'.sz → (w.cell? ⟨b, off + c, none⟩).isSome = true := fun c hcc => by
      have hz : 0 < el'.sz := by
        rcases Nat.eq_zero_or_pos el'.sz with e | e
        · rw [e] at hcc; simp at hcc
        · exact e
      have hle : min xs.length m * el'.sz ≤ xs.length * el'.sz := Nat.mul_le_mul_right _ (by omega)
      have := hc (c / el'.sz) (c % el'.sz) ((Nat.div_lt_iff_lt_mul hz).2 (by omega)) (Nat.mod_lt _ hz)
      rwa [Nat.div_add_mod' c el'.sz] at this
    obtain ⟨us, u1, u2, u3⟩ := rows hcells rfl h
    exact ⟨xs, us, hK, rfl, u1, u2, u3⟩
  case own el' l m' lo n h =>
    obtain ⟨rfl, hK⟩ := hK
    obtain ⟨q1, q2, A, cap, rfl, q3⟩ := h
    split at hK
    · rename_i el'' xs hxs
      obtain ⟨rfl, rfl, hK⟩ := hK
      obtain ⟨o1, o2, o3⟩ := hR.ok l _ hxs
      obtain ⟨q4, q5, q6⟩ := q3 o1.symm
      have hlen : ((xs.drop lo).take n).length = n := by simp; omega
      rcases Nat.eq_zero_or_pos n with rfl | hn
      · refine ⟨(xs.drop lo).take 0, #[], hK, rfl, ?_, by simp, fun i c hi => by simp at hi⟩
        cases A with
        | none => simp [Builtin.firstCells]
        | some b => simp [Builtin.firstCells, loadCells, loadCellsFrom]
      · rcases o3 with ⟨rfl, _, _⟩ | ⟨b, vs, b1, b2, b3, b4, b5, _⟩
        · simp at q4; omega
        · have q7 := q6 (by omega)
          rw [b1] at q7
          simp only [Option.map_some] at q7
          subst q7
          have hrow : g.off l + lo * el''.sz + n * el''.sz ≤ vs.size := by
            have : lo * el''.sz + n * el''.sz ≤ g.cap l * el''.sz := by rw [← Nat.add_mul]; exact Nat.mul_le_mul_right _ (by omega)
            omega
          have hcells : ∀ c, c < n * el''.sz → w.cell? ⟨b, g.off l + lo * el''.sz + c, none⟩ = some (vs.getD (g.off l + lo * el''.sz + c) Go.undef) := fun c hcc => b2.cell (by omega)
          have hle : min n m * el''.sz ≤ n * el''.sz := Nat.mul_le_mul_right _ (by omega)
          obtain ⟨us, u1, u2, u3⟩ := rows (xs := (xs.drop lo).take n) (b := b) (o := g.off l + lo * el''.sz) (n := min n m) (fun c hcc => by rw [hcells c (by omega)]; rfl) (by rw [hlen]) (fun i c hi hcc => by
            rw [hlen] at hi
            have h2 := idx_lt hi hcc
            rw [getD_drop_take hi]
            have e : cellD w ⟨b, g.off l + lo * el''.sz + (i * el''.sz + c), none⟩ = vs.getD (g.off l + (lo + i) * el''.sz + c) Go.undef := by
              unfold cellD
              rw [hcells _ h2, show g.off l + lo * el''.sz + (i * el''.sz + c) = g.off l + (lo + i) * el''.sz + c by rw [Nat.add_mul]; omega]
              rfl
            rw [e]
            exact b5 (lo + i) c (by omega) hcc)
          rw [hlen] at u1 u2
          exact ⟨(xs.drop lo).take n, us, hK, by rw [hlen]; rfl, by rw [hlen]; exact u1, by rw [hlen]; exact u2, u3⟩
    · exact hK.elim
  case asl el' p n A cap hn hc h =>
    obtain ⟨rfl, rfl, hK⟩ := hK
    obtain ⟨b, o, cs, rfl, h1, h2, h3, h4, h5⟩ := load_cells hR h hK
    obtain ⟨us, u1, u2, u3⟩ := rows (xs := cs) (b := b) (o := o) (n := min cs.length m) (fun c hcc => h4 c (by simp at hcc; omega)) rfl (fun i c hi hcc => by
      have hc0 : c = 0 := by simp at hcc; omega
      subst hc0
      have := h5 i (by omega)
      have hsc := scalar_get h2 hi
      have hcell : (cs.getD i .undef).cell 0 = cs.getD i .undef := by generalize cs.getD i .undef = z at hsc; cases z <;> first | rfl | (simp [AV.scalar] at hsc; done)
      rw [hcell]
      simpa using this)
    exact ⟨cs, us, h3, by rw [h1]; rfl, u1, u2, u3⟩
theorem growBy_le (need : Nat) : ∀ (r c : Nat), c ≤ 2 * need + 512 → Builtin.growBy need r c ≤ 2 * need + 512
  | 0, c, h => h
  | r + 1, c, h => by
    simp only [Builtin.growBy]
    split
    · exact h
    · exact growBy_le need r _ (by omega)
theorem nextcap_le {need old : Nat} (h : old < need) : Builtin.nextslicecap need old ≤ 2 * need + 512 := by
  unfold Builtin.nextslicecap
  split
  · omega
  · split
    · omega
    · exact growBy_le need 4 old (by omega)
theorem room_ok {need old bytes sz : Nat} (h : old < need) (hb : bytes ≤ 24 * (sz + 1)) (hs : sz ≤ 1000) (hr : need * (sz + 1) ≤ 2 ^ 40) : ¬ Builtin.nextslicecap need old * bytes > 2 ^ 48 := by
  have h1 := nextcap_le h
  have h2 : Builtin.nextslicecap need old * bytes ≤ (2 * need + 512) * (24 * (sz + 1)) := Nat.mul_le_mul h1 hb
  have h3 : (2 * need + 512) * (24 * (sz + 1)) = 48 * (need * (sz + 1)) + 12288 * (sz + 1) := by
    rw [Nat.add_mul, show 2 * need * (24 * (sz + 1)) = 48 * (need * (sz + 1)) by
      rw [Nat.mul_comm 2 need, Nat.mul_assoc, show 2 * (24 * (sz + 1)) = 48 * (sz + 1) by omega, Nat.mul_left_comm]]
    omega
  have h4 : 48 * (need * (sz + 1)) ≤ 48 * 2 ^ 40 := Nat.mul_le_mul_left _ hr
  have h5 : (2:Nat) ^ 48 = 281474976710656 := by decide
  have h6 : (2:Nat) ^ 40 = 1099511627776 := by decide
  omega
theorem run_grow {ats : Array TypeId} {r sT xT e : TypeId} {d : TypeDesc} {el : El} {base : Option Addr} {sLen sCap n : Nat} {x : Value} {olds news : Array Value}
    (h0 : ats[0]? = some sT) (h1 : ats[1]? = some xT) (hu : P.underlying sT = some (.slice e)) (hx : P.underlying xT = some d) (hd : ∀ k, d ≠ .int k) (he : tyEl P e = some el)
    (hl : (Builtin.lenOf x).run P w = .ok n w) (hc : sCap < sLen + n) (hr : (sLen + n) * (el.sz + 1) ≤ 2 ^ 40)
    (ho : ∀ dr, (Builtin.firstCells el.sz sLen (.slice base sLen sCap)).run P { w with drawn := dr } = .ok olds { w with drawn := dr })
    (hn : ∀ dr, (Builtin.firstCells el.sz n x).run P { w with drawn := dr } = .ok news { w with drawn := dr }) :
    ∃ cap rest dr, sLen + n ≤ cap ∧ rest.size = (cap - (sLen + n)) * el.sz ∧
      (Builtin.append_ ats r #[.slice base sLen sCap, x]).run P w = .ok (.slice (some ⟨w.heap.size, 0, none⟩) (sLen + n) cap) (World.alloc { w with drawn := dr } (.cells (olds ++ news ++ rest) e)) := by
  obtain ⟨fi, hi, _, hs, _, hb, hsz, z, hz, hzs⟩ := tyEl_spec he
  have hroom := room_ok (bytes := fi.bytes) (old := sCap) hc hb hsz hr
  have hzv : ∀ w, (zeroValue e).run P w = .ok z w := fun w => by simp [zeroValue, run_typeInfo hi, hz]
  let q : Question := .appendCap (sLen + n) sCap e
  let cap := q.cut (w.tape w.drawn q)
  refine ⟨cap, Builtin.zeroCells z.cells (cap - (sLen + n)), w.drawn + 1, by simp only [cap, q, Question.cut]; omega, by simp [Builtin.zeroCells, hzs], ?_⟩
  have hnint : (match d with | .int _ => true | _ => false) = false := by cases d <;> first | rfl | exact absurd rfl (hd _)
  have hfalse : ((d matches .int _) : Bool) = false := by cases d <;> first | rfl | exact absurd rfl (hd _)
  have hneed : ¬ (sLen + n ≤ sCap) := by omega
  have hbytes : fi.bytes = 0 → ¬ (((sLen + n : Nat) : Int) > IntKind.i64.max) := fun _ => by
    have : (sLen + n) * 1 ≤ (sLen + n) * (el.sz + 1) := Nat.mul_le_mul_left _ (by omega)
    have h6 : (2:Nat) ^ 40 = 1099511627776 := by decide
    have : IntKind.i64.max = 9223372036854775807 := by decide
    omega
  have hb' : ¬ ((((sLen + n : Nat) : Int) > IntKind.i64.max) ∧ fi.bytes = 0) := fun h => hbytes h.2 h.1
  have hforced : q.forced = false := rfl
  unfold Builtin.append_
  simp only [List.getElem?_toArray, List.getElem?_cons_zero, List.getElem?_cons_succ, h0, h1, Sem.run_bind, run_underlying' hu, Result.andThen_ok, run_sizeOf' hi, hs, run_underlying' hx, Sem.run_pure, hfalse, hl, Bool.false_eq_true, if_false, if_neg hneed, run_typeInfo hi, false_or, Bool.not_false, if_true]
  rw [if_neg hb']
  simp only [Sem.run_bind, run_typeInfo hi, Result.andThen_ok, if_neg hroom]
  rw [run_choose]
  simp only [show (Question.appendCap (sLen + n) sCap e).forced = false from rfl, Bool.false_eq_true, if_false, Result.andThen_ok, run_typeInfo hi, run_askRoom, ho, hn, hzv, newRow, Sem.run_bind, run_newObj, Sem.run_pure]
  rfl
theorem run_inplace {ats : Array TypeId} {r sT xT e : TypeId} {d : TypeDesc} {el : El} {b o : Nat} {sLen sCap n : Nat} {x : Value} {news vs : Array Value}
    (h0 : ats[0]? = some sT) (h1 : ats[1]? = some xT) (hu : P.underlying sT = some (.slice e)) (hx : P.underlying xT = some d) (hd : ∀ k, d ≠ .int k) (he : tyEl P e = some el)
    (hl : (Builtin.lenOf x).run P w = .ok n w) (hc : sLen + n ≤ sCap)
    (hn : (Builtin.firstCells el.sz n x).run P w = .ok news w) (hr : Row w b vs) (hsz : o + sLen * el.sz + news.size ≤ vs.size) (h1c : ∀ u ∈ news.toList, u.oneCell' = true) :
    (Builtin.append_ ats r #[.slice (some ⟨b, o, none⟩) sLen sCap, x]).run P w = .ok (.slice (some ⟨b, o, none⟩) (sLen + n) sCap) (setRow w b (o + sLen * el.sz) news.toList) := by
  obtain ⟨fi, hi, _, hs, _⟩ := tyEl_spec he
  have hfalse : ((d matches .int _) : Bool) = false := by cases d <;> first | rfl | exact absurd rfl (hd _)
  have hst := run_storeCells (P := P) (b := b) (o := o + sLen * el.sz) news.toList w vs 0 hr (by simpa using hsz) h1c
  unfold Builtin.append_
  simp only [List.getElem?_toArray, List.getElem?_cons_zero, List.getElem?_cons_succ, h0, h1, Sem.run_bind, run_underlying' hu, Result.andThen_ok, run_sizeOf' hi, hs, run_underlying' hx, Sem.run_pure, hfalse, hl, Bool.false_eq_true, if_false, if_pos hc, hn, Bool.not_false, if_true, add_plain]
  rw [hst]
  simp
theorem run_inplace0 {ats : Array TypeId} {r sT xT e : TypeId} {d : TypeDesc} {el : El} {sLen sCap n : Nat} {x : Value} {news : Array Value}
    (h0 : ats[0]? = some sT) (h1 : ats[1]? = some xT) (hu : P.underlying sT = some (.slice e)) (hx : P.underlying xT = some d) (hd : ∀ k, d ≠ .int k) (he : tyEl P e = some el)
    (hl : (Builtin.lenOf x).run P w = .ok n w) (hc : sLen + n ≤ sCap) (hn : (Builtin.firstCells el.sz n x).run P w = .ok news w) :
    (Builtin.append_ ats r #[.slice none sLen sCap, x]).run P w = .ok (.slice none (sLen + n) sCap) w := by
  obtain ⟨fi, hi, _, hs, _⟩ := tyEl_spec he
  have hfalse : ((d matches .int _) : Bool) = false := by cases d <;> first | rfl | exact absurd rfl (hd _)
  unfold Builtin.append_
  simp only [List.getElem?_toArray, List.getElem?_cons_zero, List.getElem?_cons_succ, h0, h1, Sem.run_bind, run_underlying' hu, Result.andThen_ok, run_sizeOf' hi, hs, run_underlying' hx, Sem.run_pure, hfalse, hl, Bool.false_eq_true, if_false, if_pos hc, hn, Bool.not_false, if_true]
theorem holds_oneCell {el : El} {xs : List AV} {us : Array Value} (h : HoldsEl g w el xs us) (hs : us.size = xs.length * el.sz) (hf : ∀ i, i < xs.length → (xs.getD i .undef).fits el = true) : ∀ u ∈ us.toList, u.oneCell' = true := by
  intro u hu
  obtain ⟨k, hk, rfl⟩ := List.mem_iff_getElem.1 hu
  simp only [Array.length_toList] at hk
  have hz : 0 < el.sz := by
    rcases Nat.eq_zero_or_pos el.sz with e | e
    · rw [e] at hs; omega
    · exact e
  have h1 : k / el.sz < xs.length := (Nat.div_lt_iff_lt_mul hz).2 (by omega)
  have h2 : k % el.sz < el.sz := Nat.mod_lt _ hz
  have := h _ _ h1 h2
  rw [Nat.div_add_mod' k el.sz] at this
  have hsc : ((xs.getD (k / el.sz) .undef).cell (k % el.sz)).scalar = true := by
    have hft := hf _ h1
    generalize xs.getD (k / el.sz) .undef = y at hft
    cases y <;> simp only [AV.fits, Bool.and_eq_true, beq_iff_eq] at hft <;> first
      | (obtain ⟨⟨_, q1⟩, q2⟩ := hft; exact scalar_get q2 (by omega))
      | rfl
      | cases hft
  have := this.oneCell hsc
  simpa [hk] using this
theorem app_sound {T : Option TypeId} {ats : Array TypeId} {r sT xT e : TypeId} {d : TypeDesc} {el : El} {x y : AV} {a b : Value} (hR : Rel g w σ)
    (h0 : ats[0]? = some sT) (h1 : ats[1]? = some xT) (hu : P.underlying sT = some (.slice e)) (hd' : P.underlying xT = some d) (hd : ∀ k, d ≠ .int k) (he : tyEl P e = some el)
    (hx : VR g w x a) (hy : VR g w y b) (hT : T = none ∨ T = some e) (hK0 : appA σ T el x y K) : RunS P (Builtin.append_ ats r #[a, b]) g w σ K := by
  obtain ⟨ys, news, hK, hl, hfc, hsz, hh⟩ := list_cells (P := P) hR hy hK0
  clear hK0
  obtain ⟨hfit, hK⟩ := hK
  have hfit' : ∀ i, i < ys.length → (ys.getD i .undef).fits el = true := fun i hi => by
    have := List.all_eq_true.1 hfit (ys[i]) (List.getElem_mem _)
    simpa [hi] using this
  have h1c := holds_oneCell hh hsz hfit'
  have hn : ∀ dr, (Builtin.firstCells el.sz ys.length b).run P { w with drawn := dr } = .ok news { w with drawn := dr } := fun dr => hfc _ rfl
  have hty : ∀ (w1 : World) (vs : Array Value), TyOk (World.alloc w1 (.cells vs e)) w1.heap.size vs.size T := fun w1 vs => by
    rcases hT with rfl | rfl
    · trivial
    · have : (World.alloc w1 (.cells vs e)).heap[w1.heap.size]? = some (.cells vs e) := heap_alloc_new w1 _
      simp only [TyOk, World.shape?, this]
  have fresh : ∀ (xs : List AV) (olds : Array Value) (base : Option Addr) (sCap : Nat), a = .slice base xs.length sCap → sCap < xs.length + ys.length → roomOk (xs.length + ys.length) el →
      (∀ dr, (Builtin.firstCells el.sz xs.length (.slice base xs.length sCap)).run P { w with drawn := dr } = .ok olds { w with drawn := dr }) →
      olds.size = xs.length * el.sz → HoldsEl g w el xs olds → (∀ i, i < xs.length → (xs.getD i .undef).fits el = true) →
      ∃ cap rest dr, xs.length + ys.length ≤ cap ∧ rest.size = (cap - (xs.length + ys.length)) * el.sz ∧ (olds ++ news ++ rest).size = cap * el.sz ∧ HoldsEl g w el (xs ++ ys) (olds ++ news ++ rest) ∧ (∀ i, i < (xs ++ ys).length → ((xs ++ ys).getD i .undef).fits el = true) ∧
        (Builtin.append_ ats r #[a, b]).run P w = .ok (.slice (some ⟨w.heap.size, 0, none⟩) (xs.length + ys.length) cap) (World.alloc { w with drawn := dr } (.cells (olds ++ news ++ rest) e)) := by
    intro xs olds base sCap ha hc hr ho hos hoh hof
    obtain ⟨cap, rest, dr, k1, k2, k3⟩ := run_grow (P := P) (r := r) h0 h1 hu hd' hd he hl hc hr ho hn
    refine ⟨cap, rest, dr, k1, k2, ?_, hoh.append hh hos hsz, fun i hi => ?_, by rw [ha]; exact k3⟩
    · simp only [Array.size_append, hos, hsz, k2]
      rw [← Nat.add_mul, ← Nat.add_mul]
      congr 1
      omega
    · simp only [List.length_append] at hi
      by_cases h : i < xs.length
      · have := hof i h
        simpa [List.getElem?_append_left h] using this
      · obtain ⟨j, rfl⟩ : ∃ j, i = xs.length + j := ⟨i - xs.length, by omega⟩
        have := hfit' j (by omega)
        simpa [List.getElem?_append_right] using this
  have pushed : ∀ (zs : List AV) (vs : Array Value) (cap dr : Nat), zs.length ≤ cap → vs.size = cap * el.sz → HoldsEl g w el zs vs → (∀ i, i < zs.length → (zs.getD i .undef).fits el = true) →
      ∃ g', Rel g' (World.alloc { w with drawn := dr } (.cells vs e)) (σ ++ [.vecT T el zs]) ∧ Evo σ g w (σ ++ [.vecT T el zs]) g' (World.alloc { w with drawn := dr } (.cells vs e)) ∧
        VR g' (World.alloc { w with drawn := dr } (.cells vs e)) (.own el σ.length zs.length 0 zs.length) (.slice (some ⟨w.heap.size, 0, none⟩) zs.length cap) := by
    intro zs vs cap dr k1 k2 k3 k4
    have hR' := hR.drew dr
    have hm := alloc_mono_push g { w with drawn := dr } (.cells vs e) zs.length (some w.heap.size) cap hR'.lt
    obtain ⟨r1, r2⟩ := hR'.allocObj (.cells vs e) (.vecT T el zs) zs.length cap
      ⟨by simp [Ghost.push], k4, .inr ⟨w.heap.size, vs, by simp [Ghost.push], rowE_alloc _ _ vs e, by simp [Ghost.push, k2], by simp [Ghost.push, k1], fun i c hi hc => by simp only [Ghost.push, if_true, Nat.zero_add]; exact ((k3 i c hi hc).mono (Evo.drew σ g w dr).mono).mono hm, by simp only [Ghost.push, if_true]; exact (hty _ _).v⟩⟩
    refine ⟨_, r1, (Evo.drew σ g w dr).trans r2, .own _ _ _ _ _ _ ⟨by simp [Ghost.push, hR.len], by simp [Ghost.push, hR.len], _, _, rfl, fun _ => ⟨by omega, by simp [Ghost.push, hR.len], fun _ => by simp [Ghost.push, hR.len]⟩⟩⟩
  cases hx <;> (try exact False.elim hK)
  case nils =>
    simp only at hK
    split at hK
    · rename_i hz
      refine ⟨.slice none 0 0, w, g, .nils, σ, ?_, hR, .refl _ _ _, .nils, hK⟩
      have := run_inplace0 (P := P) (r := r) (sLen := 0) (sCap := 0) h0 h1 hu hd' hd he hl (by omega) (hfc w rfl)
      rw [this]; simp [hz]
    · rename_i hz
      obtain ⟨hr, hK⟩ := hK
      obtain ⟨cap, rest, dr, k1, k2, k3, k4, k5, k6⟩ := fresh [] #[] none 0 rfl (by simp; omega) (by simpa using hr) (fun _ => rfl) (by simp) (fun i c hi => absurd hi (Nat.not_lt_zero _)) (fun i hi => absurd hi (Nat.not_lt_zero _))
      simp only [List.nil_append, List.length_nil, Nat.zero_add] at k1 k4 k5 k6
      obtain ⟨g', r1, r2, r3⟩ := pushed ys _ cap dr k1 k3 k4 k5
      exact ⟨_, _, g', _, _, k6, r1, r2, r3, hK⟩
  case lstE f el' base cap hf =>
    cases f with
    | false => exact hK.elim
    | true =>
      obtain ⟨rfl, hK⟩ := hK
      have hcap : cap = 0 := hf rfl
      subst hcap
      split at hK
      · rename_i hz
        refine ⟨.slice base 0 0, w, g, .lst true el' [], σ, ?_, hR, .refl _ _ _, .lstE _ _ _ _ hf, hK⟩
        cases base with
        | none =>
          have := run_inplace0 (P := P) (r := r) (sLen := 0) (sCap := 0) h0 h1 hu hd' hd he hl (by omega) (hfc w rfl)
          rw [this]; simp [hz]
        | some A =>
          obtain ⟨fi, hi, _, hs, _⟩ := tyEl_spec he
          have hfalse : ((d matches .int _) : Bool) = false := by cases d <;> first | rfl | exact absurd rfl (hd _)
          have hne : news = #[] := by rw [hz] at hsz; exact Array.eq_empty_of_size_eq_zero (by simpa using hsz)
          have hfc0 := hfc w rfl
          rw [hne, hz] at hfc0
          rw [hz] at hl
          unfold Builtin.append_
          simp only [List.getElem?_toArray, List.getElem?_cons_zero, List.getElem?_cons_succ, h0, h1, Sem.run_bind, run_underlying' hu, Result.andThen_ok, run_sizeOf' hi, hs, run_underlying' hd', Sem.run_pure, hfalse, hl, Bool.false_eq_true, if_false, Nat.add_zero, Nat.le_refl, if_true, hfc0, Bool.not_false]
          simp [storeCells]
      · rename_i hz
        obtain ⟨hr, hK⟩ := hK
        obtain ⟨cap, rest, dr, k1, k2, k3, k4, k5, k6⟩ := fresh [] #[] base 0 rfl (by simp; omega) (by simpa using hr) (fun _ => by cases base <;> simp [Builtin.firstCells, loadCells, loadCellsFrom]) (by simp) (fun i c hi => absurd hi (Nat.not_lt_zero _)) (fun i hi => absurd hi (Nat.not_lt_zero _))
        simp only [List.nil_append, List.length_nil, Nat.zero_add] at k1 k4 k5 k6 hK
        obtain ⟨g', r1, r2, r3⟩ := pushed ys _ cap dr k1 k3 k4 k5
        exact ⟨_, _, g', _, _, k6, r1, r2, r3, hK⟩
  case lst f el' xs b' off cap him hf hxc ft hc h =>
    cases f with
    | false => exact hK.elim
    | true =>
      obtain ⟨rfl, hK⟩ := hK
      have hcap : cap = xs.length := hf rfl
      subst hcap
      have hcur : VR g w (.lst true el' xs) (.slice (some ⟨b', off, none⟩) xs.length xs.length) := .lst true el' xs b' off _ him hf hxc ft hc h
      split at hK
      · rename_i hz
        refine ⟨.slice (some ⟨b', off, none⟩) xs.length xs.length, w, g, .lst true el' xs, σ, ?_, hR, .refl _ _ _, hcur, hK⟩
        obtain ⟨fi, hi, _, hs, _⟩ := tyEl_spec he
        have hfalse : ((d matches .int _) : Bool) = false := by cases d <;> first | rfl | exact absurd rfl (hd _)
        have hne : news = #[] := by rw [hz] at hsz; exact Array.eq_empty_of_size_eq_zero (by simpa using hsz)
        have hfc0 := hfc w rfl
        rw [hne, hz] at hfc0
        rw [hz] at hl
        unfold Builtin.append_
        simp only [List.getElem?_toArray, List.getElem?_cons_zero, List.getElem?_cons_succ, h0, h1, Sem.run_bind, run_underlying' hu, Result.andThen_ok, run_sizeOf' hi, hs, run_underlying' hd', Sem.run_pure, hfalse, hl, Bool.false_eq_true, if_false, Nat.add_zero, Nat.le_refl, if_true, hfc0, Bool.not_false]
        simp [storeCells]
      · rename_i hz
        obtain ⟨hr, hK⟩ := hK
        obtain ⟨xs', olds, q1, q2, q3, q4, q5⟩ := list_cells (P := P) (K := fun zs => zs = xs) (el := el') hR hcur (by simp [listA])
        subst q1
        obtain ⟨cap, rest, dr, k1, k2, k3, k4, k5, k6⟩ := fresh xs' olds _ xs'.length rfl (by omega) hr (fun _ => q3 _ rfl) q4 q5 ft
        obtain ⟨g', r1, r2, r3⟩ := pushed (xs' ++ ys) _ cap dr (by simpa using k1) k3 k4 k5
        simp only [List.length_append] at r3
        exact ⟨_, _, g', _, _, k6, r1, r2, r3, hK⟩
  case own el' l m lo n h =>
    obtain ⟨rfl, hK⟩ := hK
    have hcur : VR g w (.own el' l m lo n) a := .own _ _ _ _ _ _ h
    obtain ⟨q1, q2, A, cap, rfl, q3⟩ := h
    split at hK
    · rename_i T' el'' xs hxs
      obtain ⟨hTT, rfl, rfl, rfl, rfl, hr, hK⟩ := hK
      obtain ⟨o1, o2, o3⟩ := hR.ok l _ hxs
      obtain ⟨q4, q5, q6⟩ := q3 o1.symm
      by_cases hc : xs.length + ys.length ≤ cap
      ·
        rcases Nat.eq_zero_or_pos ys.length with hz | hz
        ·
          have hne : news = #[] := by rw [hz] at hsz; exact Array.eq_empty_of_size_eq_zero (by simpa using hsz)
          have hys : ys = [] := List.eq_nil_of_length_eq_zero hz
          subst hys
          have hset : σ.set l (.vecT T' el'' xs) = σ := by
            apply List.ext_getElem?
            intro k
            by_cases e : k = l
            · subst e; rw [List.getElem?_set_self (by have := (List.getElem?_eq_some_iff.1 hxs).1; exact this)]; exact hxs.symm
            · rw [List.getElem?_set_ne (Ne.symm e)]
          simp only [List.length_nil, Nat.add_zero, List.append_nil, hset] at hK
          refine ⟨.slice A xs.length cap, w, g, .own el'' l xs.length 0 xs.length, σ, ?_, hR, .refl _ _ _, hcur, hK⟩
          obtain ⟨fi, hi, _, hs, _⟩ := tyEl_spec he
          have hfalse : ((d matches .int _) : Bool) = false := by cases d <;> first | rfl | exact absurd rfl (hd _)
          have hfc0 := hfc w rfl
          rw [hne] at hfc0
          simp only [List.length_nil, Nat.add_zero] at hc hfc0 hl
          unfold Builtin.append_
          simp only [List.getElem?_toArray, List.getElem?_cons_zero, List.getElem?_cons_succ, h0, h1, Sem.run_bind, run_underlying' hu, Result.andThen_ok, run_sizeOf' hi, hs, run_underlying' hd', Sem.run_pure, hfalse, hl, Bool.false_eq_true, if_false, Nat.add_zero, if_pos hc, hfc0, Bool.not_false, if_true]
          cases A <;> simp [storeCells]
        · rcases o3 with ⟨rfl, o4, o5⟩ | ⟨b', vs, b1, b2, b3, b4, b5, b6⟩
          · simp at q5 hc; omega
          · have q7 := q6 (by omega)
            rw [b1] at q7
            simp only [Option.map_some] at q7
            subst q7
            have hcapl : g.cap l = cap := by omega
            have hroom : g.off l + (xs.length + ys.length) * el''.sz ≤ vs.size := by rw [b3, hcapl]; exact Nat.add_le_add_left (Nat.mul_le_mul_right _ hc) _
            rw [Nat.add_mul] at hroom
            have hrun := run_inplace (P := P) (r := r) (b := b') (o := g.off l + 0 * el''.sz) (sLen := xs.length) h0 h1 hu hd' hd he hl hc (hfc w rfl) b2.1 (by omega) h1c
            obtain ⟨f1, f2, f3, f4, f5⟩ := setRow_facts w b' (g.off l + 0 * el''.sz + xs.length * el''.sz) news.toList
            obtain ⟨r1, r2⟩ := hR.change (o' := .vecT T' el'' (xs ++ ys)) (w' := setRow w b' (g.off l + 0 * el''.sz + xs.length * el''.sz) news.toList) hxs rfl (xs.length + ys.length) (some b') (g.cap l) (g.off l) (by omega) (fun e => by omega) (by omega) f2 f3 f4
              (fun c hc' hne => f5 c (fun e => hne (e ▸ b1))) (fun c hc' => .inl (by rw [b1, hc']))
              (fun hm => ⟨by simp [Ghost.reset], fun i hi => by
                simp only [List.length_append] at hi
                by_cases h : i < xs.length
                · have := o2 i h
                  simpa [List.getElem?_append_left h] using this
                · obtain ⟨j, rfl⟩ : ∃ j, i = xs.length + j := ⟨i - xs.length, by omega⟩
                  have := hfit' j (by omega)
                  simpa [List.getElem?_append_right] using this,
                .inr ⟨b', _, by simp [Ghost.reset], b2.setRow _ _, by rw [size_putRow]; simp [Ghost.reset, b3], by simp [Ghost.reset]; omega, fun i c hi hc' => by
                  simp only [List.length_append] at hi
                  rw [show (g.reset l (xs.length + ys.length) (some b') (g.cap l) (g.off l)).off l = g.off l from by simp [Ghost.reset]]
                  rw [getD_putRow _ _ _ (by simp; omega)]
                  simp only [Array.length_toList, hsz]
                  by_cases h : i < xs.length
                  · have h2 := idx_lt h hc'
                    rw [if_neg (by omega), show (xs ++ ys).getD i .undef = xs.getD i .undef by simp [List.getElem?_append_left h]]
                    exact (b5 i c h hc').mono hm
                  · obtain ⟨j, rfl⟩ : ∃ j, i = xs.length + j := ⟨i - xs.length, by omega⟩
                    have hj : j < ys.length := by omega
                    have h2 := idx_lt hj hc'
                    rw [Nat.add_mul, if_pos (by omega), show (xs ++ ys).getD (xs.length + j) .undef = ys.getD j .undef by simp [List.getElem?_append_right],
                      show g.off l + (xs.length * el''.sz + j * el''.sz) + c - (g.off l + 0 * el''.sz + xs.length * el''.sz) = j * el''.sz + c by omega]
                    have := (hh j c hj hc').mono hm
                    have h3 : j * el''.sz + c < news.size := by omega
                    simpa [h3] using this, by
                  cases T' with
                  | none => trivial
                  | some T' => simp only [Ghost.reset, if_true]; rw [size_putRow]; exact ⟨(shape_setRow _ _ _ _ _).trans b6.1, b6.2⟩⟩⟩)
            refine ⟨_, _, _, _, _, hrun, r1, r2, .own _ _ _ _ _ _ ⟨by simp [Ghost.reset]; exact q1, by simp [Ghost.reset], _, _, rfl, fun _ => ⟨by omega, by simp [Ghost.reset]; omega, fun _ => by simp [Ghost.reset]⟩⟩, hK⟩
      ·
        obtain ⟨xs', olds, p1, p2, p3, p4, p5⟩ := list_cells (P := P) (K := fun zs => zs = xs) (el := el'') hR hcur (by simp [listA, hxs])
        subst p1
        obtain ⟨cap', rest, dr, k1, k2, k3, k4, k5, k6⟩ := fresh xs' olds A cap rfl (by omega) hr (fun _ => p3 _ rfl) p4 p5 o2
        have hR' := hR.drew dr
        obtain ⟨r1, r2⟩ := hR'.change (o' := .vecT T' el'' (xs' ++ ys)) (w' := World.alloc { w with drawn := dr } (.cells (olds ++ news ++ rest) e)) hxs rfl (xs'.length + ys.length) (some w.heap.size) cap' 0 (by omega)
          (fun e => by
            have hys : ys.length = 0 := by omega
            have : ¬ (xs'.length ≤ cap) := by omega
            have : xs'.length ≤ g.cap l := by
              rcases o3 with ⟨rfl, _, _⟩ | ⟨b', vs, b1, b2, b3, b4, b5⟩
              · exact Nat.zero_le _
              · exact b4
            omega) (by simp) rfl rfl rfl
          (fun c hc' _ => heap_alloc_old _ _ hc') (fun c hc' => .inr (by cases hc'; exact Nat.le_refl _))
          (fun hm => ⟨by simp [Ghost.reset], k5, .inr ⟨w.heap.size, _, by simp [Ghost.reset], rowE_alloc _ { w with drawn := dr } _ e, by simp only [Ghost.reset, if_true, Nat.zero_add]; exact k3, by simp [Ghost.reset]; exact k1, fun i c hi hc' => by simp only [Ghost.reset, if_true, Nat.zero_add]; exact ((k4 i c hi hc').mono (Evo.drew σ g w dr).mono).mono hm, by
            simp only [Ghost.reset, if_true]
            rcases hTT with rfl | rfl
            · trivial
            · exact (hty { w with drawn := dr } _).v⟩⟩)
        refine ⟨_, _, _, _, _, k6, r1, (Evo.drew σ g w dr).trans r2, .own _ _ _ _ _ _ ⟨by simp [Ghost.reset]; exact q1, by simp [Ghost.reset], _, _, rfl, fun _ => ⟨by omega, by simp [Ghost.reset], fun _ => by simp [Ghost.reset]⟩⟩, hK⟩
    · exact hK.elim
theorem appAt_sound {T : Option TypeId} {ats : Array TypeId} {r sT xT e : TypeId} {d : TypeDesc} {el : El} {x y : AV} {a b : Value} {n : Nat} {ys : List AV} (hR : Rel g w σ)
    (h0 : ats[0]? = some sT) (h1 : ats[1]? = some xT) (hu : P.underlying sT = some (.slice e)) (hd' : P.underlying xT = some d) (hd : ∀ k, d ≠ .int k) (he : tyEl P e = some el)
    (hx : VR g w x a) (hy : VR g w y b) (hT : T = none ∨ T = some e) (hn : σ[n]? = some .resv) (hys : pureL el y = some ys) (hx0 : noneL el x = true) (hfit : ys.all (fun a => a.fits el) = true) (hroom : roomOk ys.length el)
    (hK : K (.own el n ys.length 0 ys.length) (σ.set n (.vecT T el ys))) : RunS P (Builtin.append_ ats r #[a, b]) g w σ K := by
  obtain ⟨r1, r2⟩ := hR.holdVec hn T el
  obtain ⟨v0, b0, c0, _⟩ := hR.ok n _ hn
  have hlt := (List.getElem?_eq_some_iff.1 hn).1
  have hx' : VR g w (.own el n 0 0 0) a := by
    have : ∃ base, a = .slice base 0 0 := by
      cases hx <;> simp only [noneL] at hx0 <;> (try (cases hx0; done))
      case nils => exact ⟨none, rfl⟩
      case lstE f el' b cap hf =>
        cases f with
        | false => cases hx0
        | true => exact ⟨b, by rw [hf rfl]⟩
      case lst f el' xs b off cap hi hf hx ft hc h =>
        cases f with
        | false => cases hx0
        | true =>
          simp only [Bool.and_eq_true, List.isEmpty_iff] at hx0
          obtain ⟨_, rfl⟩ := hx0
          exact ⟨_, by rw [hf rfl]; rfl⟩
    obtain ⟨base, rfl⟩ := this
    refine .own _ _ _ _ _ _ ⟨by rw [← hR.len]; exact hlt, Nat.zero_le _, base, 0, rfl, fun _ => ⟨Nat.le_refl _, by rw [c0], fun h => by rw [c0] at h; exact absurd h (Nat.lt_irrefl _)⟩⟩
  have hA : appA (σ.set n (.vecT T el [])) T el (.own el n 0 0 0) y K := by
    have hset : (σ.set n (.vecT T el []))[n]? = some (.vecT T el []) := List.getElem?_set_self hlt
    have key : ys.all (fun a => a.fits el) = true ∧ (el = el ∧ match (σ.set n (.vecT T el []))[n]? with
        | some (.vecT T' el'' xs) => (T' = none ∨ T' = T) ∧ el'' = el ∧ 0 = xs.length ∧ 0 = 0 ∧ 0 = xs.length ∧ roomOk (xs.length + ys.length) el ∧
          K (.own el n (xs.length + ys.length) 0 (xs.length + ys.length)) ((σ.set n (.vecT T el [])).set n (.vecT T' el (xs ++ ys)))
        | _ => False) := by
      refine ⟨hfit, rfl, ?_⟩
      rw [hset]
      refine ⟨.inr rfl, rfl, rfl, rfl, rfl, by simpa using hroom, ?_⟩
      simpa [List.set_set] using hK
    unfold appA listA
    cases y <;> simp only [pureL] at hys <;> (try (cases hys; done))
    · cases hys; exact key
    · split at hys
      · rename_i h; cases hys; exact ⟨h, key⟩
      · cases hys
  obtain ⟨v, w', g', av, σ', q1, q2, q3, q4, q5⟩ := app_sound r1 h0 h1 hu hd' hd he hx' hy hT hA
  exact ⟨v, w', g', av, σ', q1, q2, r2.trans q3, q4, q5⟩
end
end Go.AM
