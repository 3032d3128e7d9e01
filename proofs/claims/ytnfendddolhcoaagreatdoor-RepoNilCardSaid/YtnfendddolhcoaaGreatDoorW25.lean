/- Part of a proof: see Root. -/
import Derived.Test.YtnfendddolhcoaaGreatDoorW24
set_option linter.unnecessarySimpa false
set_option linter.unusedSectionVars false
set_option linter.unusedSimpArgs false
set_option linter.unusedVariables false
namespace Go.AM
open Go.Proofs Go.Shelf Go.RowKit Go.Lib
abbrev EP2 : El := ⟨true, 2⟩
theorem setCells_setRow (w : World) (b : Nat) (us : List Value) : ∀ o, w.setCells b o us = setRow w b o us := by
  induction us generalizing w with
  | nil => intro o; rfl
  | cons u us ih => intro o; rw [World.setCells, setRow, ih]
theorem ins_holds {g : Ghost} {w : World} {xs : List AV} {x : AV} {i n : Nat} {cF uF aF : Nat → Value} (hn : xs.length = n) (hi : i ≤ n)
    (h : ∀ k c, k < n → c < 2 → VR g w ((xs.getD k .undef).cell c) (cF (k * 2 + c))) (hu : ∀ c, c < 2 → VR g w (x.cell c) (uF c))
    (ha : ∀ j, j < (n + 1) * 2 → aF j = if j < i * 2 then cF j else if j < i * 2 + 2 then uF (j - i * 2) else cF (j - 2)) :
    ∀ k c, k < n + 1 → c < 2 → VR g w (((xs.take i ++ x :: xs.drop i).getD k .undef).cell c) (aF (k * 2 + c)) := by
  intro k c hk hc
  rw [ha _ (by omega)]
  have hl : (xs.take i).length = i := by simp; omega
  rcases Nat.lt_trichotomy k i with h1 | h1 | h1
  · rw [if_pos (by omega), show (xs.take i ++ x :: xs.drop i).getD k .undef = xs.getD k .undef by
      rw [List.getD_eq_getElem?_getD, List.getElem?_append_left (by omega), List.getElem?_take, if_pos h1, List.getD_eq_getElem?_getD]]
    exact h k c (by omega) hc
  · subst h1
    rw [if_neg (by omega), if_pos (by omega), show (xs.take k ++ x :: xs.drop k).getD k .undef = x by
      rw [List.getD_eq_getElem?_getD, List.getElem?_append_right (by omega), hl]; simp, show k * 2 + c - k * 2 = c by omega]
    exact hu c hc
  · obtain ⟨j, rfl⟩ : ∃ j, k = j + 1 := ⟨k - 1, by omega⟩
    rw [if_neg (by omega), if_neg (by omega), show (xs.take i ++ x :: xs.drop i).getD (j + 1) .undef = xs.getD j .undef by
      rw [List.getD_eq_getElem?_getD, List.getElem?_append_right (by omega), hl, show j + 1 - i = (j - i) + 1 by omega, List.getElem?_cons_succ, List.getElem?_drop, show i + (j - i) = j by omega, List.getD_eq_getElem?_getD],
      show (j + 1) * 2 + c - 2 = j * 2 + c by omega]
    exact h j c (by omega) hc
theorem ins_fits {xs : List AV} {x : AV} {i n : Nat} {el : El} (hn : xs.length = n) (hi : i ≤ n) (h : ∀ k, k < n → (xs.getD k .undef).fits el = true) (hx : x.fits el = true) :
    ∀ k, k < (xs.take i ++ x :: xs.drop i).length → ((xs.take i ++ x :: xs.drop i).getD k .undef).fits el = true := by
  intro k hk
  rw [List.length_append, List.length_cons, List.length_take, List.length_drop] at hk
  have hl : (xs.take i).length = i := by simp; omega
  rcases Nat.lt_trichotomy k i with h1 | h1 | h1
  · rw [show (xs.take i ++ x :: xs.drop i).getD k .undef = xs.getD k .undef by
      rw [List.getD_eq_getElem?_getD, List.getElem?_append_left (by omega), List.getElem?_take, if_pos h1, List.getD_eq_getElem?_getD]]
    exact h k (by omega)
  · subst h1
    rw [show (xs.take k ++ x :: xs.drop k).getD k .undef = x by
      rw [List.getD_eq_getElem?_getD, List.getElem?_append_right (by omega), hl]; simp]
    exact hx
  · obtain ⟨j, rfl⟩ : ∃ j, k = j + 1 := ⟨k - 1, by omega⟩
    rw [show (xs.take i ++ x :: xs.drop i).getD (j + 1) .undef = xs.getD j .undef by
      rw [List.getD_eq_getElem?_getD, List.getElem?_append_right (by omega), hl, show j + 1 - i = (j - i) + 1 by omega, List.getElem?_cons_succ, List.getElem?_drop, show i + (j - i) = j by omega, List.getD_eq_getElem?_getD]]
    exact h j (by omega)
theorem vals3 {vs : Array Value} (h : 3 = vs.size) : vs = #[vs.getD 0 Go.undef, vs.getD 1 Go.undef, vs.getD 2 Go.undef] := by
  apply Array.ext
  · simp [← h]
  · intro i h1 h2
    simp at h2
    obtain rfl | rfl | rfl : i = 0 ∨ i = 1 ∨ i = 2 := by omega
    all_goals simp [← h]
theorem ins_rel {g : Ghost} {w w' : World} {σ : Store} {l n i : Nat} {xs : List AV} {x : AV} (hR : Rel g w σ) (hl : σ[l]? = some (.vec EP2 xs)) (hn : xs.length = n) (hi : i ≤ n) (hv : g.ver l = n)
    (hfx : ∀ k, k < n → (xs.getD k .undef).fits EP2 = true) (hx : x.fits EP2 = true)
    {nb off cap : Nat} {arr : Array Value} (hsz : w.heap.size ≤ w'.heap.size) (hos : w'.os = w.os) (htape : w'.tape = w.tape) (hout : w'.output = w.output)
    (hheap : ∀ b, b < w.heap.size → g.base l ≠ some b → w'.heap[b]? = w.heap[b]?) (hnb : g.base l = some nb ∨ w.heap.size ≤ nb) (hrow : RowE EP2 w' nb arr) (ha : arr.size = off + cap * 2) (hc : n + 1 ≤ cap)
    (hh : ∀ g', Mono g w g' w' → ∀ k c, k < n + 1 → c < 2 → VR g' w' (((xs.take i ++ x :: xs.drop i).getD k .undef).cell c) (arr.getD (off + (k * 2 + c)) Go.undef)) :
    ∃ g', Rel g' w' (σ.set l (.vec EP2 (xs.take i ++ x :: xs.drop i))) ∧ Evo σ g w (σ.set l (.vec EP2 (xs.take i ++ x :: xs.drop i))) g' w' ∧
      VR g' w' (.own EP2 l (n + 1) 0 (n + 1)) (.slice (some ⟨nb, off, none⟩) (n + 1) cap) := by
  have hlen : (xs.take i ++ x :: xs.drop i).length = n + 1 := by simp; omega
  have hln : l < g.n := by rw [← hR.len]; exact (List.getElem?_eq_some_iff.1 hl).1
  obtain ⟨r1, r2⟩ := hR.change (o' := .vec EP2 (xs.take i ++ x :: xs.drop i)) (w' := w') hl rfl (n + 1) (some nb) cap off (by omega) (fun e => by omega) hsz hos htape hout hheap
    (fun b hb => by cases hb; exact hnb)
    (fun hm => ⟨by simp [Ghost.reset, hlen], ins_fits hn hi hfx hx, .inr ⟨nb, arr, by simp [Ghost.reset], hrow, by simp [Ghost.reset, ha], by simp only [Ghost.reset, if_true]; omega, fun k c hk hc' => by
      simp only [Ghost.reset, if_true]
      have := hh _ hm k c (by omega) hc'
      rw [show off + k * 2 + c = off + (k * 2 + c) by omega]
      exact this, trivial⟩⟩)
  exact ⟨_, r1, r2, .own _ _ _ _ _ _ ⟨hln, by simp [Ghost.reset], _, _, rfl, fun _ => ⟨by omega, by simp [Ghost.reset], fun _ => by simp [Ghost.reset]⟩⟩⟩
theorem shape_row {w : World} {b : Nat} {vs : Array Value} (h : Row w b vs) : ∃ T, w.shape? b = some (T, vs.size) := by
  obtain ⟨T, fz, h1, _⟩ := h
  exact ⟨T, by simp only [World.shape?, h1]⟩
theorem shape_cell {w : World} {b o : Nat} (h : (w.cell? ⟨b, o, none⟩).isSome = true) : ∃ T k, w.shape? b = some (T, k) ∧ k ≠ 0 := by
  simp only [World.cell?] at h
  simp only [World.shape?]
  cases hq : w.heap[b]? with
  | none => rw [hq] at h; cases h
  | some o' =>
    rw [hq] at h
    cases o' with
    | cells vs T fz =>
      refine ⟨T, vs.size, rfl, fun e => ?_⟩
      simp at h
      omega
    | _ => cases h
variable {P : Program} {ρ : Ren}
set_option maxHeartbeats 1000000 in
theorem ins_call {nm : String} {fo : Func} {zv : Value} {B : Nat} {Z : Array Value} (L : LayIns P ρ nm fo zv B) (hZ : zv.cells = Z) (hB : B ≤ 72) (hH : Has P (ρ.f 22)) {σ : Store} {l i : Nat} {xs : List AV} {x : AV} {f : Bool}
    (hl : σ[l]? = some (.vec EP2 xs)) (hi : i ≤ xs.length) (hbig : xs.length + 1 ≤ 1000000) :
    CallA P (ρ.f 22) [.own EP2 l xs.length 0 xs.length, .int .i64 i, .lst f EP2 [x]] σ fun o σ' => o = .ret (.own EP2 l (xs.length + 1) 0 (xs.length + 1)) ∧ σ' = σ.set l (.vec EP2 (xs.take i ++ x :: xs.drop i)) := by
  refine ⟨hH, fun g w vs hR hlen hv => ?_⟩
  have v0 := hv 0 (by simp)
  have v1 := hv 1 (by simp)
  have v2 := hv 2 (by simp)
  rw [vals3 hlen]
  generalize vs.getD 0 Go.undef = a at v0
  generalize vs.getD 1 Go.undef = b1 at v1
  generalize vs.getD 2 Go.undef = c1 at v2
  simp only [List.getD_cons_zero, List.getD_cons_succ] at v0 v1 v2
  cases v1
  obtain ⟨vb, voff, vcap, rfl, him, ft, hcv, hcr⟩ : ∃ vb voff vcap, c1 = .slice (some ⟨vb, voff, none⟩) 1 vcap ∧ g.imm vb ∧ x.fits EP2 = true ∧
      (∀ c, c < 2 → (w.cell? ⟨vb, voff + c, none⟩).isSome = true) ∧ (∀ c, c < 2 → VR g w (x.cell c) (cellD w ⟨vb, voff + c, none⟩)) := by
    generalize hy : AV.lst f EP2 [x] = y at v2
    cases v2 <;> cases hy
    rename_i b off cap hi hf hx ft hc h
    exact ⟨b, off, cap, rfl, hi, by simpa using ft 0 (by simp), fun c h2 => by simpa using hc 0 c (by simp) h2, fun c h2 => by simpa using h 0 c (by simp) h2⟩
  obtain ⟨us, hus⟩ : ∃ us : List Value, us = [cellD w ⟨vb, voff + 0, none⟩, cellD w ⟨vb, voff + 1, none⟩] := ⟨_, rfl⟩
  have hul : us.length = 2 := by rw [hus]; rfl
  have hug : ∀ c, c < 2 → us.getD c Go.undef = cellD w ⟨vb, voff + c, none⟩ := fun c hc => by
    rw [hus]
    obtain rfl | rfl : c = 0 ∨ c = 1 := by omega
    all_goals rfl
  have huc : ∀ j v, us[j]? = some v → w.cell? ⟨vb, voff + j, none⟩ = some v := fun j v hj => by
    have hj2 : j < 2 := by have := (List.getElem?_eq_some_iff.1 hj).1; omega
    have e1 := hug j hj2
    rw [List.getD_eq_getElem?_getD, hj] at e1
    have e1 : v = cellD w ⟨vb, voff + j, none⟩ := e1
    rw [e1]
    unfold cellD
    obtain ⟨u, hu⟩ := Option.isSome_iff_exists.1 (hcv j hj2)
    rw [hu]; rfl
  have hur : ∀ c, c < 2 → VR g w (x.cell c) (us.getD c Go.undef) := fun c hc => by rw [hug c hc]; exact hcr c hc
  have hu1 : ∀ v ∈ us, v.oneCell' = true := fun v hv => by
    have := holds_oneCell (g := g) (w := w) (el := EP2) (xs := [x]) (us := us.toArray) (fun k c hk hc => by
      have hk0 : k = 0 := by simp at hk; omega
      subst hk0
      have := hur c hc
      simpa using this) (by simp [hul]) (fun k hk => by
      have hk0 : k = 0 := by simp at hk; omega
      subst hk0
      simpa using ft) v (by simpa using hv)
    exact this
  cases v0
  rename_i h0
  obtain ⟨q1, q2, A, cap, rfl, q3⟩ := h0
  obtain ⟨o1, o2, o3⟩ := hR.ok l _ hl
  obtain ⟨q4, q5, q6⟩ := q3 o1.symm
  obtain ⟨n, hn⟩ : ∃ n, n = xs.length := ⟨_, rfl⟩
  rw [← hn] at hi hbig o1 o2 o3 q4 ⊢
  have q5' : cap = g.cap l := by omega
  rcases Nat.eq_zero_or_pos cap with hc0 | hc0
  ·
    have hn0 : n = 0 := by
      rcases o3 with ⟨e, _⟩ | ⟨_, _, _, _, _, h5, _⟩
      · rw [e] at hn; exact hn
      · omega
    have hi0 : i = 0 := by omega
    subst hn0 hi0 hc0
    have hx0 : xs = [] := List.eq_nil_of_length_eq_zero hn.symm
    subst hx0
    refine (ins_end_grow L hZ hB A 0 0 vb voff vcap [] us w (Nat.le_refl _) (by omega) (by omega) rfl hul (fun _ => rfl) (fun _ _ j v hj => by simp at hj) huc hu1).mono ?_
    rintro e w' ⟨rfl, rfl⟩
    have hG := grownCap_ge w (0 + 1) 0 (ρ.t 9)
    generalize grownCap w (0 + 1) 0 (ρ.t 9) = G at hG ⊢
    have hzc : Z.size = 2 := hZ ▸ L.zc
    obtain ⟨g', r1, r2, r3⟩ := ins_rel (i := 0) (x := x) (n := 0) (xs := []) (w' := w.drew.alloc (.cells (([] ++ us).toArray ++ Builtin.zeroCells Z (G - (0 + 1))) (ρ.t 9))) (nb := w.heap.size) (off := 0) (cap := G) (arr := ([] ++ us).toArray ++ Builtin.zeroCells Z (G - (0 + 1))) hR hl rfl (Nat.le_refl _) o1 o2 ft (by simp) rfl rfl rfl
      (fun b hb _ => heap_alloc_old w.drew _ hb) (.inr (Nat.le_refl _)) (rowE_alloc _ w.drew _ _) (by simp [Builtin.zeroCells, hzc, hul]; omega) (by omega)
      (fun g' hm k c hk hc => by
        have hk0 : k = 0 := by omega
        subst hk0
        have := (hur c hc).mono hm
        have e : (([] ++ us).toArray ++ Builtin.zeroCells Z (G - (0 + 1))).getD (0 + (0 * 2 + c)) Go.undef = us.getD c Go.undef := by
          rw [Array.getD_eq_getD_getElem?, Array.getElem?_append_left (by simp; omega)]
          simp
        rw [e]
        exact this)
    exact ⟨.ret _, g', _, r1, r2, r3, rfl, rfl⟩
  · rcases o3 with ⟨_, _, h4, _⟩ | ⟨b, arr, b1, b2, b3, b4, b5, _⟩
    · omega
    have q7 := q6 (by omega)
    rw [b1] at q7
    simp only [Option.map_some] at q7
    subst q7
    have hsz : arr.size = g.off l + cap * 2 := by rw [b3, q5']
    have hb0 : vb ≠ b := fun e => hR.dis l b ⟨_, hl, rfl⟩ b1 (e ▸ him)
    obtain ⟨cs, hcs⟩ : ∃ cs, cs = (arr.toList.drop (g.off l)).take (n * 2) := ⟨_, rfl⟩
    have hncap : n * 2 ≤ cap * 2 := by omega
    have hcl : cs.length = n * 2 := by rw [hcs]; simp; omega
    have hcg : ∀ j, j < n * 2 → cs[j]? = some (arr.getD (g.off l + j) Go.undef) := fun j hj => by
      have h1 : g.off l + j < arr.size := by omega
      rw [hcs, List.getElem?_take, if_pos hj, List.getElem?_drop, Array.getElem?_toList, Array.getD_eq_getD_getElem?, Array.getElem?_eq_getElem h1]
      rfl
    have hcc : ∀ j v, cs[j]? = some v → w.cell? ⟨b, g.off l + j, none⟩ = some v := fun j v hj => by
      have hj2 : j < n * 2 := by have := (List.getElem?_eq_some_iff.1 hj).1; omega
      rw [hcg j hj2] at hj
      cases hj
      exact b2.cell (by omega)
    have hcr' : ∀ k c, k < n → c < 2 → VR g w ((xs.getD k .undef).cell c) (arr.getD (g.off l + (k * 2 + c)) Go.undef) := fun k c hk hc => by
      have := b5 k c hk hc
      rw [show g.off l + k * 2 + c = g.off l + (k * 2 + c) by omega] at this
      exact this
    have hc1 : ∀ v ∈ cs, v.oneCell' = true := fun v hv => by
      refine holds_oneCell (g := g) (w := w) (el := EP2) (xs := xs) (us := cs.toArray) (fun k c hk hc => ?_) (by simp [hcl, hn]) (fun k hk => o2 k (by omega)) v (by simpa using hv)
      rw [show cs.toArray.getD (k * 2 + c) Go.undef = arr.getD (g.off l + (k * 2 + c)) Go.undef by
        rw [Array.getD_eq_getD_getElem?, List.getElem?_toArray, hcg _ (by have : c < 2 := hc; omega)]; rfl]
      exact hcr' k c (by omega) hc
    have hfz := fun j => b2.2 rfl j
    simp only [Nat.zero_mul, Nat.add_zero]
    by_cases hroom : n + 1 ≤ cap
    · have hsp : ∀ j, j < (n + 1) * 2 → (w.cell? ⟨b, g.off l + j, none⟩).isSome = true := fun j hj => by rw [b2.cell (by omega)]; rfl
      rcases Nat.lt_or_ge i n with hin | hin
      · obtain ⟨tA, kA, hsa, hkA⟩ := shape_cell (hcv 0 (by omega))
        obtain ⟨tB, hsb⟩ := shape_row b2.1
        refine (ins_shift L b (g.off l) n cap i vb voff vcap cs us w hin hroom (by omega) hb0 hcl hul hcc hsp hfz huc hc1 hu1 tA tB kA arr.size hsa hsb hkA).mono ?_
        rintro e w' ⟨rfl, rfl⟩
        rw [setCells_setRow, setCells_setRow]
        obtain ⟨f1, f2, f3, f4, f5⟩ := setRow_facts w.drew b (g.off l + (i + 1) * 2) (cs.drop (i * 2))
        obtain ⟨k1, k2, k3, k4, k5⟩ := setRow_facts (setRow w.drew b (g.off l + (i + 1) * 2) (cs.drop (i * 2))) b (g.off l + i * 2) us
        have hrow : RowE EP2 w.drew b arr := b2.of_heap rfl
        have hdl : (cs.drop (i * 2)).length = (n - i) * 2 := by rw [List.length_drop, hcl]; omega
        obtain ⟨g', r1, r2, r3⟩ := ins_rel (i := i) (x := x) (nb := b) (off := g.off l) (cap := cap) hR hl hn.symm hi o1 o2 ft (Nat.le_of_eq (f1.symm.trans k1.symm)) (k2.trans f2) (k3.trans f3) (k4.trans f4)
          (fun c hc hne => (k5 c (fun e => hne (e ▸ b1))).trans (f5 c (fun e => hne (e ▸ b1)))) (.inl b1) ((hrow.setRow _ _).setRow _ _) (by rw [size_putRow, size_putRow]; exact hsz) hroom
          (fun g' hm k c hk hc => by
            refine ins_holds (uF := fun c => us.getD c Go.undef) (cF := fun j => arr.getD (g.off l + j) Go.undef) (aF := fun j => (putRow (putRow arr (g.off l + (i + 1) * 2) (cs.drop (i * 2))) (g.off l + i * 2) us).getD (g.off l + j) Go.undef) hn.symm hi (fun k c hk hc => (hcr' k c hk hc).mono hm) (fun c hc => (hur c hc).mono hm) (fun j hj => ?_) k c hk hc
            show (putRow (putRow arr (g.off l + (i + 1) * 2) (cs.drop (i * 2))) (g.off l + i * 2) us).getD (g.off l + j) Go.undef = _
            rw [getD_putRow _ _ _ (by rw [size_putRow]; omega), getD_putRow _ _ _ (by omega)]
            by_cases h1 : j < i * 2
            · rw [if_neg (by omega), if_neg (by omega), if_pos h1]
            · by_cases h2 : j < i * 2 + 2
              · rw [if_pos (by omega), if_neg h1, if_pos h2, show g.off l + j - (g.off l + i * 2) = j - i * 2 by omega]
              · rw [if_neg (by omega), if_pos (by omega), if_neg h1, if_neg h2, List.getD_eq_getElem?_getD, List.getElem?_drop, hcg _ (by omega), show g.off l + (i * 2 + (g.off l + j - (g.off l + (i + 1) * 2))) = g.off l + (j - 2) by omega]
                rfl)
        exact ⟨.ret _, g', _, r1, r2, r3, rfl, rfl⟩
      · have hie : i = n := by omega
        subst hie
        refine (ins_end_room L b (g.off l) i cap vb voff vcap us w hroom (by omega) hul (fun j hj => by rw [Nat.add_assoc]; exact hsp _ (by omega)) hfz huc hu1).mono ?_
        rintro e w' ⟨rfl, rfl⟩
        rw [setCells_setRow]
        obtain ⟨f1, f2, f3, f4, f5⟩ := setRow_facts w b (g.off l + i * 2) us
        obtain ⟨g', r1, r2, r3⟩ := ins_rel (i := i) (x := x) (nb := b) (off := g.off l) (cap := cap) hR hl hn.symm hi o1 o2 ft (Nat.le_of_eq f1.symm) f2 f3 f4
          (fun c hc hne => f5 c (fun e => hne (e ▸ b1))) (.inl b1) (b2.setRow _ _) (by rw [size_putRow]; exact hsz) hroom
          (fun g' hm k c hk hc => by
            refine ins_holds (uF := fun c => us.getD c Go.undef) (cF := fun j => arr.getD (g.off l + j) Go.undef) (aF := fun j => (putRow arr (g.off l + i * 2) us).getD (g.off l + j) Go.undef) hn.symm hi (fun k c hk hc => (hcr' k c hk hc).mono hm) (fun c hc => (hur c hc).mono hm) (fun j hj => ?_) k c hk hc
            show (putRow arr (g.off l + i * 2) us).getD (g.off l + j) Go.undef = _
            rw [getD_putRow _ _ _ (by omega)]
            by_cases h1 : j < i * 2
            · rw [if_neg (by omega), if_pos h1]
            · rw [if_pos (by omega), if_neg h1, if_pos (by omega), show g.off l + j - (g.off l + i * 2) = j - i * 2 by omega])
        exact ⟨.ret _, g', _, r1, r2, r3, rfl, rfl⟩
    · have hbw : b < w.heap.size := b2.lt
      have hzc : Z.size = 2 := hZ ▸ L.zc
      have hzl : ∀ k, (Builtin.zeroCells Z k).size = k * 2 := fun k => by simp [Builtin.zeroCells, hzc]
      rcases Nat.lt_or_ge i n with hin | hin
      · refine (ins_grow L hZ hB b (g.off l) n cap i vb voff vcap cs us w hin (by omega) (by omega) (by omega) hcl hul hcc huc hc1 hu1).mono ?_
        rintro e w' ⟨rfl, rfl⟩
        rw [setCells_setRow, setCells_setRow]
        have hG := grownCap_ge w (n + 1) cap (ρ.t 9)
        generalize grownCap w (n + 1) cap (ρ.t 9) = G at hG ⊢
        obtain ⟨ROW, hROW⟩ : ∃ ROW : Array Value, ROW = (cs.take (i * 2)).toArray ++ Builtin.zeroCells Z (n + 1 - i) ++ Builtin.zeroCells Z (G - (n + 1)) := ⟨_, rfl⟩
        rw [← hROW]
        have hRs : ROW.size = G * 2 := by
          rw [hROW]
          simp only [Array.size_append, hzl, List.size_toArray, List.length_take]
          omega
        have hRg : ∀ j, j < i * 2 → ROW.getD j Go.undef = arr.getD (g.off l + j) Go.undef := fun j hj => by
          rw [hROW, Array.getD_eq_getD_getElem?, Array.getElem?_append_left (by simp only [Array.size_append, hzl, List.size_toArray, List.length_take]; omega), Array.getElem?_append_left (by simp; omega), List.getElem?_toArray, List.getElem?_take, if_pos hj, hcg j (by omega)]
          rfl
        obtain ⟨W, hW⟩ : ∃ W, W = (w.alloc (.cells ROW (ρ.t 9))).drew := ⟨_, rfl⟩
        rw [← hW]
        have hWs : w.heap.size ≤ W.heap.size := by rw [hW]; show w.heap.size ≤ (w.alloc _).heap.size; simp
        have hWo : ∀ c, c < w.heap.size → W.heap[c]? = w.heap[c]? := fun c hc => by rw [hW]; exact heap_alloc_old w _ hc
        have hWr : RowE EP2 W w.heap.size ROW := by rw [hW]; exact (rowE_alloc _ w ROW _).of_heap rfl
        have hW2 : W.os = w.os ∧ W.tape = w.tape ∧ W.output = w.output := by rw [hW]; exact ⟨rfl, rfl, rfl⟩
        clear hW
        obtain ⟨f1, f2, f3, f4, f5⟩ := setRow_facts W w.heap.size (i * 2) us
        obtain ⟨k1, k2, k3, k4, k5⟩ := setRow_facts (setRow W w.heap.size (i * 2) us).drew w.heap.size ((i + 1) * 2) (cs.drop (i * 2))
        have hdl : (cs.drop (i * 2)).length = (n - i) * 2 := by rw [List.length_drop, hcl]; omega
        have hrow1 : RowE EP2 (setRow W w.heap.size (i * 2) us).drew w.heap.size (putRow ROW (i * 2) us) := (hWr.setRow _ _).of_heap rfl
        obtain ⟨g', r1, r2, r3⟩ := ins_rel (i := i) (x := x) (nb := w.heap.size) (off := 0) (cap := G) hR hl hn.symm hi o1 o2 ft (Nat.le_trans hWs (Nat.le_of_eq (f1.symm.trans k1.symm))) (k2.trans (f2.trans hW2.1)) (k3.trans (f3.trans hW2.2.1)) (k4.trans (f4.trans hW2.2.2))
          (fun c hc hne => (k5 c (by omega)).trans ((f5 c (by omega)).trans (hWo c hc))) (.inr (Nat.le_refl _)) (hrow1.setRow _ _) (by rw [size_putRow, size_putRow]; omega) hG
          (fun g' hm k c hk hc => by
            refine ins_holds (uF := fun c => us.getD c Go.undef) (cF := fun j => arr.getD (g.off l + j) Go.undef) (aF := fun j => (putRow (putRow ROW (i * 2) us) ((i + 1) * 2) (cs.drop (i * 2))).getD (0 + j) Go.undef) hn.symm hi (fun k c hk hc => (hcr' k c hk hc).mono hm) (fun c hc => (hur c hc).mono hm) (fun j hj => ?_) k c hk hc
            show (putRow (putRow ROW (i * 2) us) ((i + 1) * 2) (cs.drop (i * 2))).getD (0 + j) Go.undef = _
            rw [Nat.zero_add, getD_putRow _ _ _ (by rw [size_putRow]; omega), getD_putRow _ _ _ (by omega)]
            by_cases h1 : j < i * 2
            · rw [if_neg (by omega), if_neg (by omega), if_pos h1]
              exact hRg j h1
            · by_cases h2 : j < i * 2 + 2
              · rw [if_neg (by omega), if_pos (by omega), if_neg h1, if_pos h2]
              · rw [if_pos (by omega), if_neg h1, if_neg h2, List.getD_eq_getElem?_getD, List.getElem?_drop, hcg _ (by omega), show g.off l + (i * 2 + (j - (i + 1) * 2)) = g.off l + (j - 2) by omega]
                rfl)
        exact ⟨.ret _, g', _, r1, r2, r3, rfl, rfl⟩
      · have hie : i = n := by omega
        subst hie
        refine (ins_end_grow L hZ hB (some ⟨b, g.off l, none⟩) i cap vb voff vcap cs us w (by omega) (by omega) (by omega) hcl hul (fun e => by cases e) (fun a ha j v hj => by cases ha; rw [Addr.add_lit]; exact hcc j v hj) huc hu1).mono ?_
        rintro e w' ⟨rfl, rfl⟩
        have hG := grownCap_ge w (i + 1) cap (ρ.t 9)
        generalize grownCap w (i + 1) cap (ρ.t 9) = G at hG ⊢
        obtain ⟨g', r1, r2, r3⟩ := ins_rel (i := i) (x := x) (w' := w.drew.alloc (.cells ((cs ++ us).toArray ++ Builtin.zeroCells Z (G - (i + 1))) (ρ.t 9))) (nb := w.heap.size) (off := 0) (cap := G) (arr := (cs ++ us).toArray ++ Builtin.zeroCells Z (G - (i + 1))) hR hl hn.symm hi o1 o2 ft (by simp) rfl rfl rfl
          (fun b hb _ => heap_alloc_old w.drew _ hb) (.inr (Nat.le_refl _)) (rowE_alloc _ w.drew _ _) (by simp only [Array.size_append, hzl, List.size_toArray, List.length_append]; omega) hG
          (fun g' hm k c hk hc => by
            refine ins_holds (uF := fun c => us.getD c Go.undef) (cF := fun j => arr.getD (g.off l + j) Go.undef) (aF := fun j => ((cs ++ us).toArray ++ Builtin.zeroCells Z (G - (i + 1))).getD (0 + j) Go.undef) hn.symm hi (fun k c hk hc => (hcr' k c hk hc).mono hm) (fun c hc => (hur c hc).mono hm) (fun j hj => ?_) k c hk hc
            show ((cs ++ us).toArray ++ Builtin.zeroCells Z (G - (i + 1))).getD (0 + j) Go.undef = _
            rw [Nat.zero_add, Array.getD_eq_getD_getElem?, Array.getElem?_append_left (by simp only [List.size_toArray, List.length_append]; omega), List.getElem?_toArray]
            by_cases h1 : j < i * 2
            · rw [if_pos h1, List.getElem?_append_left (by omega), hcg j h1]
              rfl
            · rw [if_neg h1, if_pos (by omega), List.getElem?_append_right (by omega), hcl, List.getD_eq_getElem?_getD])
        exact ⟨.ret _, g', _, r1, r2, r3, rfl, rfl⟩
end Go.AM
namespace Go.AM
open Go.Proofs Go.Shelf
namespace B
noncomputable def onOwn : AV → (El → Nat → Nat → Nat → Nat → Bool) → Bool :=
  @AV.rec (fun _ => (El → Nat → Nat → Nat → Nat → Bool) → Bool) (fun _ => PUnit)
    (fun _ => false)
    (fun _ _ => false)
    (fun _ _ _ => false)
    (fun _ _ => false)
    (fun _ _ _ => false)
    (fun _ _ _ => false)
    (fun _ => false)
    (fun _ _ _ _ _ => false)
    (fun el l m lo n K => K el l m lo n)
    (fun _ _ _ => false)
    (fun _ _ _ _ _ => false)
    (fun _ _ _ _ _ _ => false)
    (fun _ => false)
    (fun _ => false)
    (fun _ => false)
    (fun _ _ _ _ _ _ => false)
    (fun _ _ _ _ => false)
    (fun _ => false)
    (fun _ _ => false)
    (fun _ _ => false)
    (fun _ _ _ _ _ => false)
    (fun _ => false)
    ⟨⟩ (fun _ _ _ _ => ⟨⟩)
noncomputable def onLst : AV → (El → List AV → Bool) → Bool :=
  @AV.rec (fun _ => (El → List AV → Bool) → Bool) (fun _ => PUnit)
    (fun _ => false)
    (fun _ _ => false)
    (fun _ _ _ => false)
    (fun _ _ => false)
    (fun _ _ _ => false)
    (fun _ _ _ => false)
    (fun _ => false)
    (fun _ el xs _ K => K el xs)
    (fun _ _ _ _ _ _ => false)
    (fun _ _ _ => false)
    (fun _ _ _ _ _ => false)
    (fun _ _ _ _ _ _ => false)
    (fun _ => false)
    (fun _ => false)
    (fun _ => false)
    (fun _ _ _ _ _ _ => false)
    (fun _ _ _ _ => false)
    (fun _ => false)
    (fun _ _ => false)
    (fun _ _ => false)
    (fun _ _ _ _ _ => false)
    (fun _ => false)
    ⟨⟩ (fun _ _ _ _ => ⟨⟩)
noncomputable def onOne (l : List AV) (K : AV → Bool) : Bool := @List.rec AV (fun _ => (AV → Bool) → Bool) (fun _ => false) (fun a r _ K => bK (isNilL r) (K a)) l K
theorem onOwn_ok {x : AV} {K : El → Nat → Nat → Nat → Nat → Bool} (h : onOwn x K = true) : ∃ el l m lo n, x = .own el l m lo n ∧ K el l m lo n = true := by cases x <;> first | exact absurd (show false = true from h) Bool.false_ne_true | exact ⟨_, _, _, _, _, rfl, h⟩
theorem onLst_ok {x : AV} {K : El → List AV → Bool} (h : onLst x K = true) : ∃ f el xs, x = .lst f el xs ∧ K el xs = true := by cases x <;> first | exact absurd (show false = true from h) Bool.false_ne_true | exact ⟨_, _, _, rfl, h⟩
theorem onOne_ok {l : List AV} {K : AV → Bool} (h : onOne l K = true) : ∃ a, l = [a] ∧ K a = true := by
  match l, h with
  | [], h => exact absurd (show false = true from h) Bool.false_ne_true
  | [a], h => exact ⟨a, rfl, h⟩
  | a :: b :: r, h => exact absurd (show false = true from h) Bool.false_ne_true
noncomputable def x_insert : XFun := fun args s K _ => on3 args fun a b c => onOwn a fun el l m lo n => bK (elEq el EP2) (bK (Nat.beq lo 0) (bK (Nat.beq n m) (onInt b fun k z => bK (kEq .i64 k) (natI z fun i => fN i fun i => bK (Nat.ble i m) (bK (Nat.ble (Nat.succ m) 1000000)
  (onLst c fun el' ys => bK (elEq el' EP2) (onOne ys fun x => vecK EP2 l m s fun T t => bK (isNoT T) (fN (Nat.sub m i) fun d => lstK .undef d i t fun tl => ofK .undef (x :: tl) i t fun _ t' => fN (Nat.succ m) fun k' => s.setK l (.vec none EP2 k' t') fun s' => K (.own EP2 l k' 0 k') s'))))))))
theorem x_insert_ok {P : Program} {ρ : Ren} {nm : String} {fo : Func} {zv : Value} {Bz : Nat} (L : LayIns P ρ nm fo zv Bz) (hB : Bz ≤ 72) (hH : Has P (ρ.f 22)) [LV] (args : List AV) (s : St) (K : AV → St → Bool) (y : Bool) (h : x_insert args s K y = true) :
    ∃ r s1, K r s1 = true ∧ CallA P (ρ.f 22) args s.abs fun o σ1 => o = .ret r ∧ σ1 = s1.abs := by
  obtain ⟨a, b, c, rfl, h1⟩ := on3_ok h
  obtain ⟨el, l, m, lo, n, rfl, h2⟩ := onOwn_ok h1
  rw [bK_iff, elEq_iff, bK_iff, bK_iff, nbeq, nbeq] at h2
  obtain ⟨rfl, rfl, rfl, h3⟩ := h2
  obtain ⟨k, z, rfl, h4⟩ := onInt_ok h3
  rw [bK_iff, kEq_iff] at h4
  obtain ⟨rfl, h5⟩ := h4
  obtain ⟨hz, h6⟩ := natI_ok h5
  rw [fN_eq, bK_iff, bK_iff, nble, nble, decide_eq_true_eq, decide_eq_true_eq] at h6
  obtain ⟨hi, hm, h7⟩ := h6
  obtain ⟨f, el', ys, rfl, h8⟩ := onLst_ok h7
  rw [bK_iff, elEq_iff] at h8
  obtain ⟨rfl, h9⟩ := h8
  obtain ⟨x, rfl, h10⟩ := onOne_ok h9
  obtain ⟨T, t, ho, h11⟩ := vecK_ok h10
  rw [bK_iff, isNoT_iff, fN_eq, lstK_eq] at h11
  obtain ⟨rfl, h12⟩ := h11
  obtain ⟨i, hiz⟩ : ∃ i, i = z.toNat := ⟨_, rfl⟩
  rw [← hiz] at hi h12
  obtain rfl : z = (i : Int) := by omega
  obtain ⟨t', h13, h14⟩ := ofK_ok _ _ _ _ _ h12
  have h13 : (fN (Nat.succ n) fun k' => s.setK l (.vec none EP2 k' t') fun s' => K (.own EP2 l k' 0 k') s') = true := h13
  rw [fN_eq] at h13
  obtain ⟨s', h15, h16⟩ := St.setK_ok h13
  refine ⟨_, s', h16, ?_⟩
  obtain ⟨xs, hxs⟩ : ∃ xs, xs = lst AV.undef 0 n t := ⟨_, rfl⟩
  have hxl : xs.length = n := by rw [hxs]; exact lst_length ..
  have hxg : ∀ j, j < n → xs.getD j .undef = t.get .undef j := fun j hj => by rw [hxs, lst_get _ hj, Nat.zero_add]
  rw [← hxs] at ho
  have hc := ins_call L rfl hB hH (f := f) (x := x) ho (by omega : i ≤ xs.length) (by omega)
  rw [hxl] at hc
  refine hc.mono ?_
  rintro o σ' ⟨rfl, rfl⟩
  refine ⟨rfl, ?_⟩
  rw [h15]
  show _ = s.abs.set l (.vecT none EP2 (lst .undef 0 (Nat.succ n) t'))
  have hgl : (lst AV.undef i (n - i) t).length = n - i := lst_length ..
  rw [lst_ext (l := xs.take i ++ x :: xs.drop i) AV.undef (by simp; omega) fun j hj => by
    rw [h14]
    have hl2 : (xs.take i).length = i := by simp; omega
    rcases Nat.lt_trichotomy j i with e | e | e
    · rw [if_neg (by omega), List.getD_eq_getElem?_getD, List.getElem?_append_left (by omega), List.getElem?_take, if_pos e, ← List.getD_eq_getElem?_getD, hxg j (by omega)]
    · subst e
      rw [if_pos ⟨Nat.le_refl _, by simp⟩, List.getD_eq_getElem?_getD, List.getD_eq_getElem?_getD, List.getElem?_append_right (by omega), hl2]
      simp
    · obtain ⟨q, rfl⟩ : ∃ q, j = q + 1 := ⟨j - 1, by omega⟩
      rw [if_pos ⟨by omega, by rw [List.length_cons]; have : (lst AV.undef i (Nat.sub n i) t).length = n - i := lst_length ..; omega⟩, List.getD_eq_getElem?_getD, List.getD_eq_getElem?_getD, List.getElem?_append_right (by omega), hl2, show q + 1 - i = (q - i) + 1 by omega, List.getElem?_cons_succ, List.getElem?_cons_succ, List.getElem?_drop, show i + (q - i) = q by omega,
        ← List.getD_eq_getElem?_getD, ← List.getD_eq_getElem?_getD, hxg q (by omega), lst_get AV.undef (show q - i < Nat.sub n i by show q - i < n - i; omega), show i + (q - i) = q by omega]]
noncomputable def memoK (L : List (List AV × AV)) (args : List AV) (K : AV → Bool) (y : Bool) : Bool := @List.rec (List AV × AV) (fun _ => Bool) y (fun p _ ih => @Prod.rec (List AV) AV (fun _ => Bool) (fun a r => iK (eqL (eqN 40) args a) (K r) ih) p) L
theorem memoK_ok {L : List (List AV × AV)} {args : List AV} {K : AV → Bool} {y : Bool} (h : memoK L args K y = true) : y = true ∨ ∃ p ∈ L, args = p.1 ∧ K p.2 = true := by
  induction L with
  | nil => exact .inl h
  | cons p L ih =>
    obtain ⟨a, r⟩ := p
    have h : iK (eqL (eqN 40) args a) (K r) (memoK L args K y) = true := h
    rw [iK_eq] at h
    split at h
    · rename_i he
      exact .inr ⟨_, List.mem_cons_self .., eqL_ok (eqN_ok 40) _ _ he, h⟩
    · rcases ih h with h | ⟨p, h1, h2⟩
      · exact .inl h
      · exact .inr ⟨p, List.mem_cons_of_mem _ h1, h2⟩
noncomputable def x_memo (L : List (List AV × AV)) : XFun := fun args s K y => memoK L args (fun r => K r s) y
theorem x_memo_ok {P : Program} {n : FuncId} {L : List (List AV × AV)} (hL : ∀ p ∈ L, CallF P n p.1 p.2) [LV] (args : List AV) (s : St) (K : AV → St → Bool) (y : Bool) (h : x_memo L args s K y = true) :
    y = true ∨ ∃ r s1, K r s1 = true ∧ CallA P n args s.abs fun o σ1 => o = .ret r ∧ σ1 = s1.abs := by
  rcases memoK_ok h with h | ⟨p, h1, rfl, h2⟩
  · exact .inl h
  · exact .inr ⟨_, s, h2, hL p h1 _⟩
end B
end Go.AM
namespace Go.Proofs.YtnfendddolhcoaaGreatDoor
open Go.AM
def hintL : List (Nat × Hints) := [(10, ⟨[], [], [(4900045, ⟨false, 1⟩)], [], [], []⟩), (30, ⟨[], [], [(3000026, ⟨false, 1⟩), (3000032, ⟨false, 1⟩), (5000102, ⟨true, 0⟩), (9000077, ⟨false, 1⟩)], [], [100029], [(10, 0)]⟩), (33, ⟨[], [], [(6, ⟨true, 2⟩)], [], [], []⟩), (35, ⟨[], [], [], [], [100060], []⟩), (36, ⟨[], [], [(1900008, ⟨false, 1⟩)], [], [], []⟩), (37, ⟨[], [], [(10, ⟨true, 6⟩)], [], [], []⟩), (44, ⟨[], [], [], [], [], [(11, 0), (13, 1)]⟩), (79, ⟨[], [], [(9, ⟨false, 1⟩)], [], [], []⟩), (84, ⟨[], [], [], [], [56, 61], []⟩), (120, ⟨[], [], [(5, ⟨false, 1⟩)], [], [], []⟩), (121, ⟨[], [], [], [14], [], []⟩), (138, ⟨[], [], [(11, ⟨false, 1⟩)], [], [], []⟩), (139, ⟨[], [], [(3, ⟨false, 1⟩)], [], [], []⟩), (141, ⟨[], [], [(6, ⟨false, 1⟩)], [], [], []⟩), (152, ⟨[], [], [], [6], [], []⟩), (155, ⟨[], [], [(5, ⟨true, 3⟩)], [], [], []⟩), (158, ⟨[], [], [(5, ⟨false, 1⟩)], [], [], []⟩), (167, ⟨[], [], [(8, ⟨false, 1⟩)], [], [], []⟩), (168, ⟨[], [], [(9, ⟨false, 1⟩), (12, ⟨true, 3⟩)], [], [], []⟩), (177, ⟨[], [], [(5, ⟨false, 1⟩)], [], [], []⟩), (178, ⟨[], [], [(5, ⟨false, 1⟩)], [], [], []⟩), (182, ⟨[], [], [(2100007, ⟨false, 1⟩)], [], [], []⟩), (192, ⟨[], [48], [], [], [], []⟩), (202, ⟨[], [], [], [8], [], []⟩), (205, ⟨[], [52, 61, 82], [], [], [], []⟩), (216, ⟨[], [28], [], [], [], []⟩), (218, ⟨[], [], [], [9], [], []⟩), (224, ⟨[], [], [(5, ⟨false, 1⟩)], [], [], []⟩), (226, ⟨[], [], [(5, ⟨false, 1⟩)], [], [], []⟩), (227, ⟨[], [], [(3, ⟨true, 2⟩)], [], [], []⟩), (239, ⟨[], [27], [], [], [], []⟩), (244, ⟨[], [], [], [14], [], []⟩), (245, ⟨[], [], [(10, ⟨true, 3⟩)], [], [], []⟩), (293, ⟨[], [], [], [14], [], []⟩), (329, ⟨[], [12], [], [], [], []⟩), (331, ⟨[], [12], [], [], [], []⟩), (342, ⟨[], [], [(6, ⟨true, 3⟩)], [], [], []⟩), (367, ⟨[], [], [], [3], [], []⟩), (390, ⟨[], [], [(5, ⟨true, 4⟩)], [], [], []⟩), (392, ⟨[], [], [], [], [20], []⟩), (396, ⟨[], [], [(7, ⟨false, 1⟩)], [], [], []⟩), (398, ⟨[], [], [(10, ⟨true, 3⟩)], [], [], []⟩), (439, ⟨[], [], [], [], [58], []⟩), (453, ⟨[], [], [], [12], [], []⟩), (468, ⟨[], [], [(4, ⟨false, 1⟩)], [], [], []⟩), (472, ⟨[], [], [], [], [16], []⟩)]
def hintF (n : FuncId) : Hints := match hintL.lookup n with | some h => h | none => ⟨[], [], [], [], [], []⟩
def isDfr (n : FuncId) : Bool := Nat.beq n 25 || Nat.beq n 30 || Nat.beq n 128 || Nat.beq n 159 || Nat.beq n 259
def neF (n : FuncId) : Bool := Nat.beq n 382
theorem neF_ok : B.NeOk Tryz.prog neF := by
  intro f h
  obtain rfl : f = 382 := Nat.eq_of_beq_eq_true h
  exact ⟨_, Tryz.func382, by kernel_rfl, by kernel_rfl, by kernel_rfl, by kernel_rfl⟩
theorem callA_on {P : Program} {f : FuncId} {args : List AV} {σ τ : Store} {R R' : Out → Store → Prop} (h : CallA P f args σ R) (e : σ = τ) (hr : ∀ o σ', R o σ' → R' o σ') : CallA P f args τ R' := e ▸ h.mono hr
theorem CallF_of_calls {P : Program} {f : FuncId} {args : List AV} {r : AV} (hf : Has P f)
    (h : ∀ (g : Ghost) (w : World) (σ : Store) (vs : Array Value), Rel g w σ → args.length = vs.size → (∀ i, i < args.length → VR g w (args.getD i .undef) (vs.getD i Go.undef)) →
      ∃ v, (∀ g' w', VR g' w' r v) ∧ Calls P f vs w fun e w' => e = .returned v ∧ w'.os = w.os ∧ w'.tape = w.tape ∧ w'.output = w.output ∧ w.heap.size ≤ w'.heap.size ∧ ∀ b, b < w.heap.size → w'.heap[b]? = w.heap[b]?) : CallF P f args r := by
  intro σ
  refine ⟨hf, fun g w vs hR hl hv => ?_⟩
  obtain ⟨v, h1, h2⟩ := h g w σ vs hR hl hv
  refine h2.mono ?_
  rintro e w' ⟨rfl, k1, k2, k3, k4, k5⟩
  obtain ⟨r1, r2⟩ := hR.addNew k4 k1 k2 k3 k5
  exact ⟨.ret r, _, σ, r1, r2, h1 _ _, rfl, rfl⟩
theorem array2 {vs : Array Value} (h : 2 = vs.size) : vs = #[vs.getD 0 Go.undef, vs.getD 1 Go.undef] := by
  apply Array.ext
  · simp [← h]
  · intro i h1 h2
    simp at h2
    obtain rfl | rfl : i = 0 ∨ i = 1 := by omega
    · simp [← h]
    · simp [← h]
theorem strings_Repeat (s : List UInt8) (m : Nat) (h1 : m ≤ 1000000) (h2 : s.length * m ≤ 1000000) : CallF Tryz.prog n_strings_Repeat [.str s, .int .i64 m] (.str (Lib.repeatL s m)) := by
  refine CallF_of_calls ⟨_, Tryz.func218, by kernel_rfl, by kernel_rfl⟩ fun g w σ vs hR hl hv => ?_
  have h3 := hv 0 (by simp)
  have h4 := hv 1 (by simp)
  rw [array2 hl]
  generalize vs.getD 0 Go.undef = v at h3
  generalize vs.getD 1 Go.undef = u at h4
  simp only [List.getD_cons_zero, List.getD_cons_succ] at h3 h4
  cases h3
  cases h4
  refine ⟨.string ⟨(Lib.repeatL s m).toArray⟩, fun g' w' => VR.str _, (Tryz.strings_Repeat ⟨s.toArray⟩ m w (by omega) (by show s.toArray.size * m ≤ _; rw [List.size_toArray]; omega)).mono ?_⟩
  rintro e w' ⟨rfl, h⟩
  refine ⟨?_, h.os, h.tape, h.output, h.size, h.block⟩
  simp
abbrev XOld := List AV → B.St → (AV → Bool) → Bool
noncomputable def puX (f : XOld) : B.XFun := fun args s K _ => f args s fun r => K r s
noncomputable def x_repeat : XOld := fun args _ K => B.on2 args fun a b => B.onStr a fun t => B.onInt b fun k z => B.bK (B.kEq .i64 k) (B.natI z fun m => B.lenK t 0 fun n => B.bK (Nat.ble m 1000000) (B.bK (Nat.ble (Nat.mul n m) 1000000) (K (.str (Lib.repeatL t m)))))
theorem x_repeat_ok [B.LV] (args : List AV) (s : B.St) (K : AV → Bool) (h : x_repeat args s K = true) : ∃ r, K r = true ∧ CallQ Tryz.prog n_strings_Repeat args s.abs r := by
  obtain ⟨a, b, rfl, h1⟩ := B.on2_ok h
  obtain ⟨t, rfl, h2⟩ := B.onStr_ok h1
  obtain ⟨k, z, rfl, h3⟩ := B.onInt_ok h2
  rw [B.bK_iff, B.kEq_iff] at h3
  obtain ⟨rfl, h4⟩ := h3
  obtain ⟨h5, h6⟩ := B.natI_ok h4
  rw [B.len0, B.bK_iff, B.bK_iff, B.nble, B.nble, decide_eq_true_eq, decide_eq_true_eq] at h6
  refine ⟨_, h6.2.2, ?_⟩
  have := strings_Repeat t z.toNat h6.1 h6.2.1
  rw [show ((z.toNat : Nat) : Int) = z by omega] at this
  exact this _
theorem strings_Compare (a b : List UInt8) : CallF Tryz.prog n_strings_Compare [.str a, .str b] (.int .i64 (Lib.compareBytes a b)) := by
  refine CallF_of_calls ⟨_, Tryz.func300, by kernel_rfl, by kernel_rfl⟩ fun g w σ vs hR hl hv => ?_
  have h3 := hv 0 (by simp)
  have h4 := hv 1 (by simp)
  rw [array2 hl]
  generalize vs.getD 0 Go.undef = v at h3
  generalize vs.getD 1 Go.undef = u at h4
  simp only [List.getD_cons_zero, List.getD_cons_succ] at h3 h4
  cases h3
  cases h4
  refine ⟨.int .i64 (Lib.compareBytes a b), fun g' w' => .int _ _, (Tryz.strings_Compare ⟨a.toArray⟩ ⟨b.toArray⟩ w).mono ?_⟩
  rintro e w' ⟨rfl, rfl⟩
  exact ⟨rfl, rfl, rfl, rfl, Nat.le_refl _, fun _ _ => rfl⟩
noncomputable def x_compare : XOld := fun args _ K => B.on2 args fun a b => B.onStr a fun s => B.onStr b fun t => B.fI (Lib.compareBytes s t) fun z => K (.int .i64 z)
theorem x_compare_ok [B.LV] (args : List AV) (s : B.St) (K : AV → Bool) (h : x_compare args s K = true) : ∃ r, K r = true ∧ CallQ Tryz.prog n_strings_Compare args s.abs r := by
  obtain ⟨a, b, rfl, h1⟩ := B.on2_ok h
  obtain ⟨x, rfl, h2⟩ := B.onStr_ok h1
  obtain ⟨y, rfl, h3⟩ := B.onStr_ok h2
  rw [B.fI_eq] at h3
  exact ⟨_, h3, strings_Compare x y _⟩
def insR : Go.Shelf.Ren := ⟨fun | 22 => 228 | 29 => 308 | 30 => 309 | n => n, fun | 0 => 0 | 3 => 3 | 4 => 4 | 9 => 189 | 24 => 168 | n => n, fun n => n⟩
theorem insL : ∃ fo, LayIns Tryz.prog insR "slices.Insert[[]decretal/api.Pair,decretal/api.Pair]" fo (.agg #[.string ⟨#[]⟩, .string ⟨#[]⟩]) 32 := ⟨_, {
  mixed := by kernel_rfl
  f22 := Tryz.func228.trans (congrArg some (by kernel_rfl))
  f29 := Tryz.func308
  n29 := by kernel_rfl
  b29 := by kernel_rfl
  o29 := by kernel_rfl
  e29 := by kernel_rfl
  t0 := Tryz.underlying0
  a0 := Tryz.isAgg0
  z0 := Tryz.sizeOf0
  v0 := Tryz.zeroValue0
  t3 := Tryz.underlying3
  a3 := Tryz.isAgg3
  z3 := Tryz.sizeOf3
  v3 := Tryz.zeroValue3
  t4 := Tryz.underlying4
  a4 := Tryz.isAgg4
  z4 := Tryz.sizeOf4
  v4 := Tryz.zeroValue4
  z9 := Tryz.sizeOf189
  t24 := Tryz.underlying168
  a24 := Tryz.isAgg168
  z24 := Tryz.sizeOf168
  v24 := Tryz.zeroValue168
  i9 := by kernel_rfl
  zc := by kernel_rfl }⟩
theorem x_insert_ok [B.LV] (args : List AV) (s : B.St) (K : AV → B.St → Bool) (y : Bool) (h : B.x_insert args s K y = true) : ∃ r s1, K r s1 = true ∧ CallA Tryz.prog n_slices_Insert_Pair args s.abs fun o σ1 => o = .ret r ∧ σ1 = s1.abs := by
  obtain ⟨fo, L⟩ := insL
  exact B.x_insert_ok L (by decide) ⟨_, Tryz.func228, by kernel_rfl, by kernel_rfl⟩ args s K y h
def crcBig : Nat := 12749536319551302420830055290731983042906869231766370170184255228463894984119587222357463453493748006886229547019502462691509165827871124329361635492757504
def nthC (i : Nat) : Nat := Nat.mod (Nat.div crcBig (Nat.pow 4294967296 i)) 4294967296
theorem nthC_eq (i : Nat) (h : i < 16) : nthC i = crcT.getD i 0 := by
  have : ∀ i : Fin 16, nthC i.val = crcT.getD i.val 0 := by decide
  exact this ⟨i, h⟩
theorem nthC_m (n : Nat) : nthC (Nat.mod n 16) = crcT.getD (Nat.mod n 16) 0 := nthC_eq _ (Nat.mod_lt _ (by decide))
noncomputable def crcK : List UInt8 → Nat → (Nat → Bool) → Bool :=
  @List.rec UInt8 (fun _ => Nat → (Nat → Bool) → Bool) (fun c K => K c) (fun b _ ih c K => B.fN (Nat.xor c b.toNat) fun c1 => B.fN (Nat.xor (Nat.div c1 16) (nthC (Nat.mod c1 16))) fun c2 => B.fN (Nat.xor (Nat.div c2 16) (nthC (Nat.mod c2 16))) fun c3 => ih c3 K)
theorem crcK_eq (s : List UInt8) : ∀ c K, crcK s c K = K (crcS s c) := by
  induction s with
  | nil => intro c K; rfl
  | cons b s ih =>
    intro c K
    show (B.fN (Nat.xor c b.toNat) fun c1 => B.fN (Nat.xor (Nat.div c1 16) (nthC (Nat.mod c1 16))) fun c2 => B.fN (Nat.xor (Nat.div c2 16) (nthC (Nat.mod c2 16))) fun c3 => crcK s c3 K) = _
    rw [B.fN_eq, B.fN_eq, B.fN_eq, ih, nthC_m, nthC_m]
    rfl
noncomputable def zerR : List UInt8 → Bool := @List.rec UInt8 (fun _ => Bool) true (fun b _ ih => B.bK (Nat.beq b.toNat 0) ih)
theorem zerR_eq (s : List UInt8) : zerR s = zerB s := by
  induction s with
  | nil => rfl
  | cons b s ih =>
    show B.bK (Nat.beq b.toNat 0) (zerR s) = (Nat.beq b.toNat 0 && zerB s)
    rw [ih]; cases Nat.beq b.toNat 0 <;> rfl
def crcLit : List AV := [.int .u32 (Int.ofNat 0), .int .u32 (Int.ofNat 274646895), .int .u32 (Int.ofNat 549293790), .int .u32 (Int.ofNat 820201905), .int .u32 (Int.ofNat 1098587580), .int .u32 (Int.ofNat 1361435347), .int .u32 (Int.ofNat 1640403810), .int .u32 (Int.ofNat 1905808397), .int .u32 (Int.ofNat 2197175160), .int .u32 (Int.ofNat 2460548119), .int .u32 (Int.ofNat 2722870694), .int .u32 (Int.ofNat 2987750089), .int .u32 (Int.ofNat 3280807620), .int .u32 (Int.ofNat 3553878443), .int .u32 (Int.ofNat 3811616794), .int .u32 (Int.ofNat 4084100981)]
theorem crcLit_eq : crcLit = crcL := rfl
theorem CallF.of_run0 {n : FuncId} {args : List AV} {r : AV} (f : Nat) (hp : AV.purL args = true) (hr : r.pur = true)
    (h : B.callK Tryz.prog neF hintF isDfr (fun _ => none) f [] n args ⟨0, .nil⟩ (fun o _ => B.onRet o fun v => B.eqN 9 v r) = true) : CallF Tryz.prog n args r := by
  obtain ⟨o, s', h1, h2⟩ := B.run_call neF_ok hintF isDfr (ex := fun _ => none) (fun _ _ h => by cases h) h
  refine CallF.of_nil (h2.mono ?_) hp
  rintro o' σ' ⟨rfl, rfl⟩
  cases o' with
  | panic v => exact absurd (show false = true from h1) Bool.false_ne_true
  | ret v => obtain rfl := B.eqN_ok 9 v r h1; exact ⟨_, rfl, View.refl _ hr⟩
theorem crc_halves : CallF Tryz.prog n_crc_halves [] (.agg crcLit) := CallF.of_run0 9 rfl rfl (by kernel_rfl)
noncomputable def x_halves : XOld := fun args _ K => B.bK (B.isNilL args) (K (.agg crcLit))
theorem x_halves_ok [B.LV] (args : List AV) (s : B.St) (K : AV → Bool) (h : x_halves args s K = true) : ∃ r, K r = true ∧ CallQ Tryz.prog n_crc_halves args s.abs r := by
  cases args with
  | nil => exact ⟨_, h, crc_halves _⟩
  | cons a l => exact absurd (show false = true from h) Bool.false_ne_true
noncomputable def x_blank : XOld := fun args _ K => B.on1 args fun a => B.onStr a fun t => B.lenK t 0 fun n => B.bK (Nat.ble n 1000000) (B.tB (zerR t) K)
theorem x_blank_ok [B.LV] (args : List AV) (s : B.St) (K : AV → Bool) (h : x_blank args s K = true) : ∃ r, K r = true ∧ CallQ Tryz.prog n_seal_blank args s.abs r := by
  obtain ⟨a, rfl, h1⟩ := B.on1_ok h
  obtain ⟨t, rfl, h2⟩ := B.onStr_ok h1
  rw [B.len0, B.bK_iff, B.nble, decide_eq_true_eq, B.tB_eq, zerR_eq] at h2
  exact ⟨_, h2.2, seal_blank t h2.1 _⟩
noncomputable def x_rotr : XOld := fun args _ K => B.on2 args fun a b => B.onInt a fun k x => B.bK (B.kEq .u32 k) (B.natI x fun x => B.onInt b fun k n => B.bK (B.kEq .i64 k) (B.natI n fun n => B.bK (Nat.ble (Nat.succ x) 4294967296) (B.bK (Nat.ble 1 n) (B.bK (Nat.ble n 31) (B.fN (rotN x n) fun r => K (.int .u32 (Int.ofNat r)))))))
theorem x_rotr_ok [B.LV] (args : List AV) (s : B.St) (K : AV → Bool) (h : x_rotr args s K = true) : ∃ r, K r = true ∧ CallQ Tryz.prog n_sha_rotr args s.abs r := by
  obtain ⟨a, b, rfl, h1⟩ := B.on2_ok h
  obtain ⟨k, x, rfl, h2⟩ := B.onInt_ok h1
  rw [B.bK_iff, B.kEq_iff] at h2
  obtain ⟨rfl, h3⟩ := h2
  obtain ⟨hx, h4⟩ := B.natI_ok h3
  obtain ⟨k, n, rfl, h5⟩ := B.onInt_ok h4
  rw [B.bK_iff, B.kEq_iff] at h5
  obtain ⟨rfl, h6⟩ := h5
  obtain ⟨hn, h7⟩ := B.natI_ok h6
  rw [B.bK_iff, B.bK_iff, B.bK_iff, B.nble, B.nble, B.nble, decide_eq_true_eq, decide_eq_true_eq, decide_eq_true_eq, B.fN_eq] at h7
  obtain ⟨g1, g2, g3, h8⟩ := h7
  have := sha_rotr x.toNat n.toNat (by omega) g2 g3
  rw [show ((x.toNat : Nat) : Int) = x by omega, show ((n.toNat : Nat) : Int) = n by omega] at this
  exact ⟨_, h8, this _⟩
noncomputable def x_on : B.XFun := fun args s K _ => B.on3 args fun a b c => B.onRef a fun l off => B.bK (Nat.beq off 0) (B.onInt b fun k x => B.bK (B.kEq .u32 k) (B.natI x fun x => B.bK (Nat.ble (Nat.succ x) 4294967296) (B.onStr c fun t => B.lenK t 0 fun n => B.bK (Nat.ble n 1000000)
  (s.getK l fun o => B.onCells o fun T k tr => B.bK (B.isNoT T) (B.lstK .undef k 0 tr fun ds => B.bK (B.eqL (B.eqN 9) ds crcLit) (crcK t x fun r => K (.int .u32 (Int.ofNat r)) s))))))
theorem x_on_ok [B.LV] (args : List AV) (s : B.St) (K : AV → B.St → Bool) (y : Bool) (h : x_on args s K y = true) : ∃ r s1, K r s1 = true ∧ CallA Tryz.prog n_crc_on args s.abs fun o σ1 => o = .ret r ∧ σ1 = s1.abs := by
  obtain ⟨a, b, c, rfl, h1⟩ := B.on3_ok h
  obtain ⟨l, off, rfl, h2⟩ := B.onRef_ok h1
  rw [B.bK_iff, B.nbeq] at h2
  obtain ⟨rfl, h3⟩ := h2
  obtain ⟨k, x, rfl, h4⟩ := B.onInt_ok h3
  rw [B.bK_iff, B.kEq_iff] at h4
  obtain ⟨rfl, h5⟩ := h4
  obtain ⟨hx, h6⟩ := B.natI_ok h5
  rw [B.bK_iff, B.nble, decide_eq_true_eq] at h6
  obtain ⟨hx2, h7⟩ := h6
  obtain ⟨t, rfl, h8⟩ := B.onStr_ok h7
  rw [B.len0, B.bK_iff, B.nble, decide_eq_true_eq] at h8
  obtain ⟨ht, h9⟩ := h8
  obtain ⟨o, ho, h10⟩ := B.St.getK_ok h9
  obtain ⟨T, k, tr, rfl, h11⟩ := B.onCells_ok h10
  rw [B.bK_iff, B.isNoT_iff, B.lstK_eq, B.bK_iff, crcK_eq] at h11
  obtain ⟨rfl, h12, h13⟩ := h11
  have e := B.eqL_ok (B.eqN_ok 9) _ _ h12
  have ho : s.abs[l]? = some (.cells (B.lst .undef 0 k tr)) := ho
  rw [e, crcLit_eq] at ho
  have := crc_on ho t x.toNat (by omega) ht
  rw [show ((x.toNat : Nat) : Int) = x by omega] at this
  exact ⟨_, s, h13, this⟩
noncomputable def isK (n m : Nat) (x y : Option B.XFun) : Option B.XFun := @Bool.rec (fun _ => Option B.XFun) y x (Nat.beq n m)
noncomputable def extF (n : FuncId) : Option B.XFun := isK n n_sha_rotr (some (puX x_rotr)) <| isK n n_crc_on (some x_on) <| isK n n_seal_blank (some (puX x_blank)) <| isK n n_crc_halves (some (puX x_halves)) <| isK n n_slices_Insert_Pair (some B.x_insert) <| isK n n_strings_Repeat (some (puX x_repeat)) (isK n n_strings_Compare (some (puX x_compare)) none)
theorem isK_cases {n m : Nat} {x y : Option B.XFun} {f : B.XFun} (h : isK n m x y = some f) : n = m ∧ x = some f ∨ y = some f := by
  unfold isK at h
  cases e : Nat.beq n m with
  | true => rw [e] at h; exact .inl ⟨Nat.eq_of_beq_eq_true e, h⟩
  | false => rw [e] at h; exact .inr h
theorem extF_ok : B.ExtOk Tryz.prog extF := by
  intro n f h V args s K y hk
  rcases isK_cases h with ⟨rfl, h⟩ | h
  · cases h; obtain ⟨r, h1, h2⟩ := x_rotr_ok args s _ hk; exact .inr ⟨r, s, h1, h2⟩
  rcases isK_cases h with ⟨rfl, h⟩ | h
  · cases h; exact .inr (x_on_ok args s K y hk)
  rcases isK_cases h with ⟨rfl, h⟩ | h
  · cases h; obtain ⟨r, h1, h2⟩ := x_blank_ok args s _ hk; exact .inr ⟨r, s, h1, h2⟩
  rcases isK_cases h with ⟨rfl, h⟩ | h
  · cases h; obtain ⟨r, h1, h2⟩ := x_halves_ok args s _ hk; exact .inr ⟨r, s, h1, h2⟩
  rcases isK_cases h with ⟨rfl, h⟩ | h
  · cases h; exact .inr (x_insert_ok args s K y hk)
  rcases isK_cases h with ⟨rfl, h⟩ | h
  · cases h; obtain ⟨r, h1, h2⟩ := x_repeat_ok args s _ hk; exact .inr ⟨r, s, h1, h2⟩
  rcases isK_cases h with ⟨rfl, h⟩ | h
  · cases h; obtain ⟨r, h1, h2⟩ := x_compare_ok args s _ hk; exact .inr ⟨r, s, h1, h2⟩
  cases h
theorem CallF.of_run {n : FuncId} {args : List AV} {r : AV} (f : Nat) (hp : AV.purL args = true) (hr : r.pur = true)
    (h : B.callK Tryz.prog neF hintF isDfr extF f [] n args ⟨0, .nil⟩ (fun o _ => B.onRet o fun v => B.eqN 9 v r) = true) : CallF Tryz.prog n args r := by
  obtain ⟨o, s', h1, h2⟩ := B.run_call neF_ok hintF isDfr extF_ok h
  refine CallF.of_nil (h2.mono ?_) hp
  rintro o' σ' ⟨rfl, rfl⟩
  cases o' with
  | panic v => exact absurd (show false = true from h1) Bool.false_ne_true
  | ret v => obtain rfl := B.eqN_ok 9 v r h1; exact ⟨_, rfl, View.refl _ hr⟩
theorem CallM.of_run {n : FuncId} {args cs : List AV} {r : AV} (f : Nat) (hp : AV.purL args = true) (hc : AV.purL cs = true) (hr : r.pur = true)
    (h : (B.ofK .undef cs 0 .nil fun k tr => B.St.pushK ⟨0, .nil⟩ (.cells none k tr) fun _ s1 => B.callK Tryz.prog neF hintF isDfr extF f [] n (.ref 0 0 :: args) s1 fun o s' => B.onRet o fun v => B.bK (B.eqN 9 v r)
      (s'.getK 0 fun o' => B.onCells o' fun T k' tr' => B.bK (B.isNoT T) (B.lstK .undef k' 0 tr' fun ds => B.eqL (B.eqN 9) ds cs))) = true) : CallM Tryz.prog n 0 args cs cs r := by
  obtain ⟨tr, h1, e1⟩ := B.ofK_nil _ h
  obtain ⟨s1, e2, h2⟩ := B.St.pushK_ok h1
  obtain ⟨o, s', h3, h4⟩ := B.callK_ok neF_ok hintF isDfr extF_ok f _ True [] (fun _ _ _ hp => by cases hp) _ _ _ _ h2
  replace h4 := h4 trivial
  cases o with
  | panic v => exact absurd (show false = true from h3) Bool.false_ne_true
  | ret v =>
    replace h3 : B.bK (B.eqN 9 v r) (s'.getK 0 fun o' => B.onCells o' fun T k' tr' => B.bK (B.isNoT T) (B.lstK .undef k' 0 tr' fun ds => B.eqL (B.eqN 9) ds cs)) = true := h3
    rw [B.bK_iff] at h3
    obtain ⟨h5, h6⟩ := h3
    obtain rfl := B.eqN_ok _ _ _ h5
    obtain ⟨o', ho, h7⟩ := B.St.getK_ok h6
    obtain ⟨T, k', tr', rfl, h8⟩ := B.onCells_ok h7
    rw [B.bK_iff, B.isNoT_iff, B.lstK_eq] at h8
    obtain ⟨rfl, h8⟩ := h8
    have e3 := B.eqL_ok (B.eqN_ok 9) _ _ h8
    have e2 : s1.abs = [.cells cs] := by rw [e2]; show ([] : Store) ++ [AObj.cellsT none (B.lst .undef 0 cs.length tr)] = _; rw [e1]; rfl
    refine CallM.of_one (callA_on h4 e2 ?_) hp hc
    rintro o' σ' ⟨rfl, rfl⟩
    obtain ⟨τ, hτ⟩ : ∃ τ, s'.abs = .cells cs :: τ := by
      match hs : s'.abs, ho with
      | a :: τ, ho =>
        have ho : some a = some (AObj.cellsT none (B.lst .undef 0 k' tr')) := ho
        cases ho; rw [e3]; exact ⟨τ, rfl⟩
    exact ⟨_, _, τ, rfl, hτ, View.refl _ hr, ViewL.refl hc⟩
end Go.Proofs.YtnfendddolhcoaaGreatDoor
