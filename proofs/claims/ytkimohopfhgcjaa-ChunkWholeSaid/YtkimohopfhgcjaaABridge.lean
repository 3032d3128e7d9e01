/- From contracts on abstract states to a row's own statement: what was read before a call reads the same behind it. -/
import Derived.Test.YtkimohopfhgcjaaAEval4
import Derived.WalkKit
import Derived.ProofKit
import Derived.OpenShut
import Derived.ReadAgain
import Derived.Deep.SlicePairs
namespace Go.AM
set_option linter.unusedSimpArgs false
set_option linter.unusedVariables false
set_option linter.unnecessarySimpa false
open Go.ChangeShapes Go.WideShapes

section
variable {H : Type} {enc : TypeId × Value → H} {P : Program} {w w' : World} {base : Nat} {spare : Nat → Bool} {held : Bool}

theorem DataW_TrodAll_carry : ∀ {ts : List TypeId} {vs : List Value} {ds : List (DataW H)} {ps : List MemPlace}, DataW.TrodAll enc P w base spare held ts vs ds ps → (∀ p ∈ ps, w.sameAt w' p) → DataW.TrodAll enc P w' base spare held ts vs ds ps
  | [], [], [], _, h, _ => h
  | _ :: _, _ :: _, _ :: _, _, ⟨p, q, ⟨n, hn⟩, h2, e⟩, hs => ⟨p, q, ⟨n, DataW.trod_carry n _ _ _ hn (fun x hx => hs x (by rw [e]; exact List.mem_append_left _ hx))⟩, DataW_TrodAll_carry h2 (fun x hx => hs x (by rw [e]; exact List.mem_append_right _ hx)), e⟩

theorem keptBut_of_heap {may : MemPlace → Prop} (h1 : w'.os = w.os) (h2 : w'.output = w.output) (h3 : ∀ b, b < w.heap.size → w'.heap[b]? = w.heap[b]?) : w.keptBut w' may := by
  refine ⟨h1, h2, fun i hi => ?_⟩
  rw [h3 i hi]
  split
  · rename_i a b ha hb
    rw [ha] at hb
    cases Option.some.inj hb
    exact ⟨rfl, rfl, rfl, fun _ _ => rfl⟩
  · rename_i a b ha hb
    rw [ha] at hb
    cases Option.some.inj hb
    exact .inr ⟨rfl, rfl⟩
  · rfl

theorem sameAt_of_heap (h3 : ∀ b, b < w.heap.size → w'.heap[b]? = w.heap[b]?) {p : MemPlace} (hp : p.block < w.heap.size) : w.sameAt w' p := by
  cases p with
  | cell b off => exact cell?_of_heap (h3 b hp) off none
  | map b => exact h3 b hp

/-- All blocks that lie in a world, none of which ever turns. -/
def Ghost.all (w : World) : Ghost := Ghost.bare (· < w.heap.size)

/-- A contract that says 'true' gives what the row asks. -/
theorem Said_of_CallF {f : FuncId} {fn : Func} {s : ChangeSpec} {t : TypeId} {args' : List AV} {W : World} {args : Array Value} {ds gs : List (DataW H)} {before : List MemPlace}
    (h : CallF P f args' (.bool true)) (hW : DataW.Whole enc P fn.params.toList s.vars false W args.toList ds gs before) (hG : GlobR (Ghost.all W) W)
    (K : Kids P (· < P.types.size)) (hz : ∀ t e, t < P.types.size → P.underlying t = some (.slice e) → 0 < P.cellsOf e) (hps : ∀ t ∈ fn.params.toList, t < P.types.size)
    (hvars : s.vars = []) (hrt : fn.resultTypes = #[t]) (ht : P.underlying t = some .bool) (hfn : s.fn H (ds ++ gs) = { results := [.lit (.bool true)], args := ds, vars := [] })
    (hl : args'.length = args.size) (hv : ∀ i, i < args'.length → VR (Ghost.all W) W (args'.getD i .undef) (args.getD i Go.undef)) :
    Calls P f args W fun e W' => ∃ v, e = .returned v ∧ s.post enc P fn false true false false W args v W' := by
  refine ((h []).2 (Ghost.all W) W args (Rel.bare (fun _ h => h) hG) hl hv).mono ?_
  rintro e W' ⟨out, g', σ', hR, hE, hO, rfl, rfl⟩
  have hfr : ∀ b, b < W.heap.size → W'.heap[b]? = W.heap[b]? := fun b hb => hE.frame b hb not_tracked_nil
  cases e with
  | panicked c => exact hO.elim
  | outgrown => exact hO.elim
  | returned v =>
    have hb : v = .bool true := by cases hO; rfl
    subst hb
    refine ⟨_, rfl, ds, gs, before, [], before, [], hW, ?_, ?_, ?_, keptBut_of_heap hE.os hE.output hfr, fun h => by cases h⟩
    · rw [hfn, hrt]
      exact trodAll_mk1 (RowKit.shut_bool ht true)
    · rw [hfn]
      have hlt := hW.lt
      obtain ⟨p, q, h1, h2, rfl, _, _⟩ := hW
      rw [hvars] at h2
      obtain ⟨rfl, rfl⟩ := trodVars_none h2
      rw [List.append_nil] at hlt ⊢
      refine DataW_TrodAll_carry (DataW.TrodAll.respare K hz hps h1 (fun x hx => by simpa using hlt x hx)) (fun x hx => sameAt_of_heap hfr (hlt x hx))
    · rw [hfn, hvars]
      rfl

theorem VR.string {g : Ghost} {w : World} (s : ByteArray) : VR g w (.str s.data.toList) (.string s) := VR.str s.data.toList
theorem VR.byte {g : Ghost} {w : World} (s : ByteArray) : VR g w (.str s.data.toList) (.string s) := VR.str s.data.toList

/-- A slice of structs of two texts, as it is read. -/
theorem pairs_of_trod {t e : TypeId} {f0 f1 : Field} {v : Value} {d : DataW H} {ps : List MemPlace} (ht : P.underlying t = some (.slice e)) (he : P.underlying e = some (.struct #[f0, f1]))
    (ce : P.cellsOf e = 2) (o0 : f0.offset = 0) (o1 : f1.offset = 1) (c0 : P.cellsOf f0.type = 1) (c1 : P.cellsOf f1.type = 1)
    (u0 : P.underlying f0.type = some .string) (u1 : P.underlying f1.type = some .string) (hb : P.bytesOf e = 32) {base0 : Nat}
    (hval : Value.okWide P w .any base0 t v) (hd : DataW.Trod enc P w 0 (fun _ => true) true t v d ps) (hwt : (d.weights P t).all (· ≤ reachBytes) = true) :
    ∃ l : List (List UInt8 × List UInt8), l.length ≤ 2 ^ 50 ∧ (∀ p ∈ l, p.1.length ≤ 2 ^ 50 ∧ p.2.length ≤ 2 ^ 50) ∧ VR (Ghost.all w) w (.lst false ⟨true, 2⟩ (l.map fun p => .agg [.str p.1, .str p.2])) v := by
  obtain ⟨a0, len, cap, rfl⟩ := okWide_slice ht hval
  obtain ⟨fuel, hf⟩ := hd
  rcases Deep.open_slice_pairs ht he ce o0 o1 c0 c1 hf with ⟨hcs, hx⟩ | ⟨a, len', cap', m, n, V0, V1, D0, D1, P0, P1, hcs, _, hl, hm, hmm, hx, hel⟩
  · simp [Value.cells] at hcs
    obtain ⟨rfl, rfl, rfl⟩ := hcs
    exact ⟨[], by simp, by simp, .lstE _ _ _ _ (by simp)⟩
  simp [Value.cells] at hcs
  obtain ⟨rfl, rfl, rfl⟩ := hcs
  simp only [Prod.mk.injEq] at hx
  obtain ⟨rfl, rfl⟩ := hx
  simp only [if_true] at hmm
  subst hmm
  have each : ∀ i, i < m → ∃ q : ByteArray × ByteArray, V0 i = .string q.1 ∧ V1 i = .string q.2 ∧ D0 i = .lit (.string q.1.data.toList) ∧ D1 i = .lit (.string q.2.data.toList) := by
    intro i hi
    obtain ⟨_, _, h3, h4⟩ := hel i hi
    obtain ⟨s0, e0, x0, _⟩ := DataW.trod_string u0 h3
    obtain ⟨s1, e1, x1, _⟩ := DataW.trod_string u1 h4
    simp only [Prod.mk.injEq] at x0 x1
    exact ⟨(s0, s1), (List.cons.inj e0).1, (List.cons.inj e1).1, x0.1, x1.1⟩
  obtain ⟨q, hq⟩ := Deep.choose_lt each
  rw [DataW.weights, ht] at hwt
  simp only [List.all_cons, List.all_append, Bool.and_eq_true, decide_eq_true_eq, List.length_map, List.length_range, hb] at hwt
  obtain ⟨hw1, hw2, _⟩ := hwt
  have hbig : ∀ (L : List Nat) (D : Nat → DataW H), (DataW.weightsAll P e (L.map D)).all (· ≤ reachBytes) = true → ∀ i ∈ L, ((D i).weights P e).all (· ≤ reachBytes) = true := by
    intro L D
    induction L with
    | nil => intro _ i hi; cases hi
    | cons x r ih =>
      intro h i hi
      simp only [List.map_cons, DataW.weightsAll, List.all_append, Bool.and_eq_true] at h
      rcases List.mem_cons.1 hi with rfl | hi
      · exact h.1
      · exact ih h.2 i hi
  refine ⟨(List.range len).map fun i => ((q i).1.data.toList, (q i).2.data.toList), ?_, ?_, ?_⟩
  · simp [reachBytes] at hw1 ⊢; omega
  · intro p hp
    obtain ⟨i, hi, rfl⟩ := List.mem_map.1 hp
    have hi' : i < m := by have := List.mem_range.1 hi; omega
    have := hbig _ _ hw2 i hi
    rw [DataW.weights, he] at this
    simp only [List.map_cons, List.map_nil, DataW.weightsEach, (hq i hi').2.2.1, (hq i hi').2.2.2, DataW.weights] at this
    simp only [List.append_nil, List.all_append, List.all_cons, List.all_nil, Bool.and_true, Bool.and_eq_true, reachBytes] at this
    have hr : (0x7ffffffff000 : Nat) ≤ 2 ^ 50 := by decide
    exact ⟨Nat.le_trans (of_decide_eq_true this.1) hr, Nat.le_trans (of_decide_eq_true this.2) hr⟩
  · by_cases h0 : len = 0
    · subst h0
      exact .lstE _ _ _ _ (by simp)
    have hspot : a.spot = none := by
      have := (hel 0 (by omega)).1
      have := World.cell?_spot this
      simpa [Addr.add] using this
    obtain ⟨b, off, sp⟩ := a
    simp only at hspot
    subst hspot
    have hc : ∀ i c, i < len → c < 2 → w.cell? ⟨b, off + (i * 2 + c), none⟩ = some (if c = 0 then .string (q i).1 else .string (q i).2) := by
      intro i c hi hc
      obtain ⟨h1, h2, _⟩ := hel i (by omega)
      rw [add_plain, (hq i (by omega)).1] at h1
      rw [add_plain, (hq i (by omega)).2.1] at h2
      match c, hc with
      | 0, _ => simpa using h1
      | 1, _ => simpa using h2
    have hlt : b < w.heap.size := by
      have := hc 0 0 (by omega) (by omega)
      simp only [World.cell?] at this
      split at this
      · rename_i x hx; exact (Array.getElem?_eq_some_iff.1 hx).1
      · cases this
    have hget : ∀ i, i < len → ((List.map (fun p : List UInt8 × List UInt8 => AV.agg [.str p.1, .str p.2]) ((List.range len).map fun i => ((q i).1.data.toList, (q i).2.data.toList))).getD i .undef) = .agg [.str (q i).1.data.toList, .str (q i).2.data.toList] := by
      intro i hi
      simp [List.getD_eq_getElem?_getD, hi]
    have := VR.lst (g := Ghost.all w) (w := w) false ⟨true, 2⟩ (List.map (fun p : List UInt8 × List UInt8 => AV.agg [.str p.1, .str p.2]) ((List.range len).map fun i => ((q i).1.data.toList, (q i).2.data.toList))) b off _ hlt (by simp) (by simpa using hl)
      (fun i hi => by rw [hget i (by simpa using hi)]; rfl)
      (fun i c hi hcc => by rw [hc i c (by simpa using hi) hcc]; rfl)
      (fun i c hi hcc => by
        have hi' : i < len := by simpa using hi
        rw [hget i hi', cellD, hc i c hi' hcc]
        have hcc' : c < 2 := hcc
        match c, hcc' with
        | 0, _ => exact VR.string _
        | 1, _ => exact VR.string _)
    simpa using this
end
end Go.AM
