/- Part of a proof: see Root. -/
import Derived.Test.YtdohdkdejmhgnaaGreatDoorW27
import Derived.WalkKit
import Derived.ProofKit
import Derived.OpenShut
import Derived.ReadAgain
import Derived.Deep.SlicePairs
import Derived.Test.YtdohdkdejmhgnaaGreatDoorRows
import Derived.SevenTiedAt
import Derived.LaidLaws
import Derived.LaidHandle
import Derived.Lib.LaidTab
set_option linter.unnecessarySimpa false
set_option linter.unusedSectionVars false
set_option linter.unusedSimpArgs false
set_option linter.unusedVariables false
namespace Go.Proofs.YtdohdkdejmhgnaaGreatDoor
open Go.AM
set_option maxRecDepth 4000
def rngV (v : Val) : Prop := rng v.n
def fewV (l : List Val) : Bool := decide (l.length ≤ 12) && l.all valB
def smallE (e : Ent) : Bool := decide (e.table.length ≤ 300) && fewV e.input && decide (e.rules.length ≤ 30) && decide (e.rows.length ≤ 30) && e.rows.all fewV
def rngEnt (e : Ent) : Prop := rng e.ver ∧ (∀ v ∈ e.input, rngV v) ∧ rng e.err ∧ (∀ n ∈ e.rules, rng n) ∧ ∀ l ∈ e.rows, ∀ v ∈ l, rngV v
theorem okVals_few {l : List Val} (h : fewV l = true) (hr : ∀ v ∈ l, rngV v) : okVals l := by
  simp only [fewV, Bool.and_eq_true, decide_eq_true_eq, List.all_eq_true] at h
  refine ⟨by omega, fun v hv => ?_⟩
  have h2 := h.2 v hv
  have hS : valB v = decide (v.s.length ≤ 300) := rfl
  rw [hS, decide_eq_true_eq] at h2
  have h3 := hr v hv
  exact ⟨h3, by omega⟩
theorem okEnt_small {e : Ent} (h : smallE e = true) (hr : rngEnt e) : okEnt e := by
  simp only [smallE, Bool.and_eq_true, decide_eq_true_eq, List.all_eq_true] at h
  obtain ⟨⟨⟨⟨h1, h2⟩, h3⟩, h4⟩, h5⟩ := h
  obtain ⟨r1, r2, r3, r4, r5⟩ := hr
  exact ⟨by omega, r1, okVals_few h2 r2, r3, ⟨by omega, r4⟩, by omega, fun l hl => okVals_few (h5 l hl) (r5 l hl)⟩
theorem law21_Small (e : Ent) : CallF Tryz.prog n_law21_E_Small [eEnt e] (.bool (smallE e)) := by
  have c1 := law16_Few e.input
  have cR := fun k => law16_Few (e.rows.getD k default)
  obtain ⟨E, hE⟩ : ∃ E, smallE e = E := ⟨_, rfl⟩
  rw [hE]
  unfold smallE at hE
  have e1 : (decide (e.input.length ≤ 12) && e.input.all valB) = fewV e.input := rfl
  rw [e1] at c1
  obtain ⟨A, B, C, D, F, G⟩ := e
  dsimp only at c1 cR hE
  generalize fewV C = f at *
  simp only [eEnt, cEnt, eInts, eVals, eRows] at c1 ⊢
  refine CallF.of_nil (of_law21_E_Small (by simp) ?_) (by simp)
  unfold b_law21_E_Small WpR
  intro Q hQr hQn hQp
  by_cases h0 : A.length ≤ 300 ∧ f = true ∧ F.length ≤ 30 ∧ G.length ≤ 30
  · obtain ⟨h1, rfl, h3, h4⟩ := h0
    rw [decide_eq_true h1, decide_eq_true h3, decide_eq_true h4, Bool.true_and, Bool.true_and, Bool.true_and, Bool.true_and] at hE
    repeat' first | refine go_ ?_ | refine cf_ c1 ?_ | refine br_ (fun hw => ?_) (fun hw => ?_) <;> try omega | fail
    all_goals first | exact ab_ | skip
    with_reducible refine loop_i [2, 3, 28, 29, 30, 31, 32, 33, 34, 35, 36, 37, 38, 39, 40, 41, 42, 43] (fun q : Nat => [(3, I q)]) (fun _ => [.cells [.str A, I B, .lst false EV (C.map eVal), I D, .lst false E1 (F.map eInt), .lst false E1 (G.map eVals)]]) (fun q => q ≤ G.length ∧ ∀ k, k < q → fewV (G.getD k default) = true) (fun q => G.length - q) (0) ?_ ?_ ?_ ?_
    · simp
    · rfl
    · exact at_
    rintro i r ⟨g1, g2⟩
    by_cases hi : i < G.length
    · have c := cR i
      have e1 : (decide ((G.getD i default).length ≤ 12) && (G.getD i default).all valB) = fewV (G.getD i default) := rfl
      rw [e1] at c
      have hne := fun h => allF (p := fewV) hi h
      have hbs := fun he => before_succ (q := fun k => fewV (G.getD k default) = true) g2 (i := i) he
      generalize fewV (G.getD i default) = v at c hne hbs
      simp only [eVals] at c
      repeat' first | refine go_ ?_ | refine cf_ c ?_ | refine br_ (fun hw => ?_) (fun hw => ?_) <;> try omega | fail
      all_goals first
        | exact ab_
        | (exact leafE (by rw [← hE, hne (by simp_all)]) rfl)
        | (refine ⟨i + 1, ?_, ?_, ?_, ou_, at_⟩ <;> (try dsimp only)
           · exact ⟨by omega, hbs (by simp_all)⟩
           · omega
           all_goals (first | rfl | (simp [go_sem]; done)))
    · repeat' first | refine go_ ?_ | refine br_ (fun hw => ?_) (fun hw => ?_) <;> try omega | fail
      exact leafE (by rw [← hE, allN (fun k hk => g2 k (by omega))]) rfl
  · have hE2 : E = false := by
      rw [← hE]
      cases hx : (decide (A.length ≤ 300) && f && decide (F.length ≤ 30) && decide (G.length ≤ 30) && G.all fewV) with
      | false => rfl
      | true =>
        simp only [Bool.and_eq_true, decide_eq_true_eq] at hx
        exact absurd ⟨hx.1.1.1.1, hx.1.1.1.2, hx.1.1.2, hx.1.2⟩ h0
    subst hE2
    repeat' first | refine go_ ?_ | refine cf_ c1 ?_ | refine br_ (fun hw => ?_) (fun hw => ?_) <;> try omega | fail
    all_goals first
      | exact ab_
      | exact leafE rfl rfl
      | (exfalso; apply h0; simp_all; done)
      | (exfalso; apply h0; refine ⟨by omega, by simp_all, by omega, by omega⟩)
def zMark : AV := .agg [I 0, I 0, .str [], .str []]
def zEnt : AV := .agg [.str [], I 0, .nils, I 0, .nils, .nils]
theorem nil_Mark : CallF Tryz.prog n_journal_Mark [.nilp] (.tup [zMark, I 1]) := CallF.of_run 9 rfl rfl (by kernel_rfl)
theorem nil_Get (i : Int) : CallF Tryz.prog n_journal_Get [.nilp, I i] (.tup [zEnt, I 1]) := CallF.of_run 9 rfl rfl (by kernel_rfl)
theorem nil_Range (i : Int) : CallF Tryz.prog n_journal_Range [.nilp, I i, I 1] (.tup [.nils, I 1]) := CallF.of_run 9 rfl rfl (by kernel_rfl)
theorem nil_Texts : CallF Tryz.prog n_journal_Texts [.nilp] (.tup [.nils, I 1]) := CallF.of_run 9 rfl rfl (by kernel_rfl)
theorem nil_Compact (i : Int) : CallF Tryz.prog n_journal_Compact [.nilp, I i] (.tup [.nils, I 1]) := CallF.of_run 9 rfl rfl (by kernel_rfl)
theorem nil_Verify : CallF Tryz.prog n_journal_Verify [.nilp] (I 1) := CallF.of_run 9 rfl rfl (by kernel_rfl)
theorem nil_Add (e : Ent) (ok : okEnt e) : ∃ f, f ≠ 0 ∧ CallF Tryz.prog n_journal_Add [.nilp, eEnt e] (.tup [.nils, I 0, I f]) := by
  have b1 := entry_Bytes e ok
  have b2 := nil_Mark
  generalize bytesE e = b at *
  obtain ⟨bs, be⟩ := b
  by_cases h : be = 0
  · subst h
    refine ⟨1, by decide, ?_⟩
    simp only [eBE, eEnt, cEnt, eInts, eVals, eRows, zMark] at b1 b2 ⊢
    refine CallF.of_nil (of_journal_Add (by simp) ?_) (by simp)
    unfold b_journal_Add WpR
    intro Q hQr hQn hQp
    repeat' first | refine go_ ?_ | refine cf_ b1 ?_ | refine cf_ b2 ?_ | refine br_ (fun hw => ?_) (fun hw => ?_) <;> try omega | fail
    all_goals first | exact ab_ | exact leafE rfl rfl
  · refine ⟨be, h, ?_⟩
    simp only [eBE, eEnt, cEnt, eInts, eVals, eRows] at b1 ⊢
    refine CallF.of_nil (of_journal_Add (by simp) ?_) (by simp)
    unfold b_journal_Add WpR
    intro Q hQr hQn hQp
    repeat' first | refine go_ ?_ | refine cf_ b1 ?_ | refine br_ (fun hw => ?_) (fun hw => ?_) <;> try omega | fail
    all_goals first | exact ab_ | exact leafE rfl rfl
set_option maxHeartbeats 8000000 in
theorem law24_JournalNil (x : Ent) (i : Int) (hr : rngEnt x) (_ : rng i) : CallF Tryz.prog n_law24_JournalNil [eEnt x, I i] (.bool true) := by
  have c0 := law21_Small x
  have cL := law24_lives
  by_cases hx : smallE x = true
  · rw [hx] at c0
    obtain ⟨f, hf, p2⟩ := nil_Add x (okEnt_small hx hr)
    have p1 := nil_Mark
    have p3 := nil_Get i
    have p4 := nil_Range i
    have p5 := nil_Texts
    have p6 := nil_Compact i
    have p7 := nil_Verify
    clear hx hr
    simp only [eEnt, cEnt, eInts, eVals, eRows, zMark, zEnt] at c0 p1 p2 p3 ⊢
    refine CallF.of_nil (of_law24_JournalNil (by simp) ?_) (by simp)
    unfold b_law24_JournalNil WpR
    intro Q hQr hQn hQp
    repeat' first | refine go_ ?_ | refine cf_ c0 ?_ | refine cf_ cL ?_ | refine cf_ p1 ?_ | refine cf_ p2 ?_ | refine cf_ p3 ?_ | refine cf_ p4 ?_ | refine cf_ p5 ?_ | refine cf_ p6 ?_ | refine cf_ p7 ?_ | refine br_ (fun hw => ?_) (fun hw => ?_) <;> try omega | fail
    all_goals first | exact ab_ | exact leafE rfl rfl
  · rw [Bool.not_eq_true] at hx
    rw [hx] at c0
    simp only [eEnt, cEnt, eInts, eVals, eRows] at c0 ⊢
    refine CallF.of_nil (of_law24_JournalNil (by simp) ?_) (by simp)
    unfold b_law24_JournalNil WpR
    intro Q hQr hQn hQp
    repeat' first | refine go_ ?_ | refine cf_ c0 ?_ | refine cf_ cL ?_ | refine br_ (fun hw => ?_) (fun hw => ?_) <;> try omega | fail
    all_goals first | exact ab_ | exact leafE rfl rfl
end Go.Proofs.YtdohdkdejmhgnaaGreatDoor
namespace Go.AM
open Go.ChangeShapes Go.WideShapes
section
variable {H : Type} {enc : TypeId × Value → H} {P : Program} {w w' : World} {base : Nat} {spare : Nat → Bool} {held : Bool}
theorem DataW_TrodAll_carry : ∀ {ts : List TypeId} {vs : List Value} {ds : List (DataW H)} {ps : List MemPlace}, DataW.TrodAll enc P w base spare held ts vs ds ps → (∀ p ∈ ps, w.sameAt w' p) → DataW.TrodAll enc P w' base spare held ts vs ds ps
  | [], [], [], _, h, _ => h
  | _ :: _, _ :: _, _ :: _, _, ⟨p, q, ⟨n, hn⟩, h2, e⟩, hs => ⟨p, q, ⟨n, DataW.trod_carry n _ _ _ hn (fun x hx => hs x (by rw [e]; exact List.mem_append_left _ hx))⟩, DataW_TrodAll_carry h2 (fun x hx => hs x (by rw [e]; exact List.mem_append_right _ hx)), e⟩
theorem keptBut_of_heap {may : MemPlace → Prop} (h1 : w'.os = w.os) (h2 : w'.output = w.output) (h3 : ∀ b, b < w.heap.size → w'.heap[b]? = w.heap[b]?) : w.keptBut w' may := by
  refine ⟨h1, h2, fun i hi => ?_⟩
  rw [h3 i hi]
  split
  · rename_i a b ha hb
    rw [ha] at hb
    cases Option.some.inj hb
    exact ⟨rfl, rfl, rfl, fun _ _ => rfl⟩
  · rename_i a b ha hb
    rw [ha] at hb
    cases Option.some.inj hb
    exact .inr ⟨rfl, rfl⟩
  · rfl
theorem sameAt_of_heap (h3 : ∀ b, b < w.heap.size → w'.heap[b]? = w.heap[b]?) {p : MemPlace} (hp : p.block < w.heap.size) : w.sameAt w' p := by
  cases p with
  | cell b off => exact cell?_of_heap (h3 b hp) off none
  | map b => exact h3 b hp
def Ghost.all (w : World) : Ghost := Ghost.bare (· < w.heap.size)
theorem Said_of_CallF {f : FuncId} {fn : Func} {s : ChangeSpec} {t : TypeId} {args' : List AV} {W : World} {args : Array Value} {ds gs : List (DataW H)} {before : List MemPlace}
    (h : CallF P f args' (.bool true)) (hW : DataW.Whole enc P fn.params.toList s.vars false W args.toList ds gs before) (hG : GlobR (Ghost.all W) W)
    (K : Kids P (· < P.types.size)) (hz : ∀ t e, t < P.types.size → P.underlying t = some (.slice e) → 0 < P.cellsOf e) (hps : ∀ t ∈ fn.params.toList, t < P.types.size)
    (hvars : s.vars = []) (hrt : fn.resultTypes = #[t]) (ht : P.underlying t = some .bool) (hfn : s.fn H (ds ++ gs) = { results := [.lit (.bool true)], args := ds, vars := [] })
    (hl : args'.length = args.size) (hv : ∀ i, i < args'.length → VR (Ghost.all W) W (args'.getD i .undef) (args.getD i Go.undef)) :
    Calls P f args W fun e W' => ∃ v, e = .returned v ∧ s.post enc P fn false true false false W args v W' := by
  refine ((h []).2 (Ghost.all W) W args (Rel.bare (fun _ h => h) hG) hl hv).mono ?_
  rintro e W' ⟨out, g', σ', hR, hE, hO, rfl, rfl⟩
  have hfr : ∀ b, b < W.heap.size → W'.heap[b]? = W.heap[b]? := fun b hb => hE.frame b hb not_tracked_nil
  cases e with
  | panicked c => exact hO.elim
  | outgrown => exact hO.elim
  | returned v =>
    have hb : v = .bool true := by cases hO; rfl
    subst hb
    refine ⟨_, rfl, ds, gs, before, [], before, [], hW, ?_, ?_, ?_, keptBut_of_heap hE.os hE.output hfr, fun h => by cases h⟩
    · rw [hfn, hrt]
      exact trodAll_mk1 (RowKit.shut_bool ht true)
    · rw [hfn]
      have hlt := hW.lt
      obtain ⟨p, q, h1, h2, rfl, _, _⟩ := hW
      rw [hvars] at h2
      obtain ⟨rfl, rfl⟩ := trodVars_none h2
      rw [List.append_nil] at hlt ⊢
      refine DataW_TrodAll_carry (DataW.TrodAll.respare K hz hps h1 (fun x hx => by simpa using hlt x hx)) (fun x hx => sameAt_of_heap hfr (hlt x hx))
    · rw [hfn, hvars]
      rfl
theorem VR.string {g : Ghost} {w : World} (s : ByteArray) : VR g w (.str s.data.toList) (.string s) := VR.str s.data.toList
end
end Go.AM
namespace Go.AM
open Go.ChangeShapes Go.WideShapes
def VRL (g : Ghost) (w : World) (az : List AV) (vs : List Value) : Prop := az.length = vs.length ∧ ∀ i, i < az.length → VR g w (az.getD i .undef) (vs.getD i Go.undef)
theorem VRL.nil (g : Ghost) (w : World) : VRL g w [] [] := ⟨rfl, fun i hi => by cases hi⟩
theorem VRL.app {g : Ghost} {w : World} {a b : List AV} {x y : List Value} (h : VRL g w a x) (k : VRL g w b y) : VRL g w (a ++ b) (x ++ y) := by
  have h1 := h.1
  refine ⟨by simp [h.1, k.1], fun i hi => ?_⟩
  rw [List.length_append] at hi
  by_cases hl : i < a.length
  · have := h.2 i hl
    rw [List.getD_eq_getElem?_getD, List.getD_eq_getElem?_getD] at this ⊢
    rw [List.getElem?_append_left hl, List.getElem?_append_left (by omega)]
    exact this
  · have := k.2 (i - a.length) (by omega)
    rw [List.getD_eq_getElem?_getD, List.getD_eq_getElem?_getD] at this ⊢
    rw [List.getElem?_append_right (by omega), List.getElem?_append_right (by omega), ← h1]
    exact this
theorem VRL.one {g : Ghost} {w : World} {a : AV} {x : Value} (h : VR g w a x) : VRL g w [a] [x] := ⟨rfl, fun i hi => by
  match i, hi with
  | 0, _ => exact h⟩
theorem VRL.agg {g : Ghost} {w : World} {az : List AV} {vs : Array Value} (h : VRL g w az vs.toList) (hs : az.all AV.scalar = true) : VR g w (.agg az) (.agg vs) := by
  refine .agg az vs (by simpa using h.1) hs (fun i hi => ?_)
  have := h.2 i hi
  simpa [List.getD_eq_getElem?_getD, Array.getD_eq_getD_getElem?] using this
section
variable {H : Type} {enc : TypeId × Value → H} {P : Program} {w : World}
def Reads (enc : TypeId × Value → H) (P : Program) (w : World) (N : Nat) (t : TypeId) (n : Nat) {α : Type} (E : α → List AV) (G : α → Prop) : Prop :=
  P.cellsOf t = n ∧ (∀ a, (E a).length = n) ∧ ∀ fuel cs x, fuel ≤ N → DataW.trod enc P w 0 (fun _ => true) true fuel t cs = some x → ∃ a, G a ∧ VRL (Ghost.all w) w (E a) cs
theorem Reads.weak {N t n : Nat} {α : Type} {E : α → List AV} {G G' : α → Prop} (h : Reads enc P w N t n E G) (hg : ∀ a, G a → G' a) : Reads enc P w N t n E G' :=
  ⟨h.1, h.2.1, fun f cs x hf hx => by obtain ⟨a, h1, h2⟩ := h.2.2 f cs x hf hx; exact ⟨a, hg a h1, h2⟩⟩
theorem Reads.map {N t n : Nat} {α β : Type} {E : α → List AV} {G : α → Prop} {E' : β → List AV} {G' : β → Prop} (h : Reads enc P w N t n E G) (f : α → β) (hE : ∀ a, E' (f a) = E a) (hl : ∀ b, (E' b).length = n) (hg : ∀ a, G a → G' (f a)) : Reads enc P w N t n E' G' :=
  ⟨h.1, hl, fun fu cs x hf hx => by obtain ⟨a, h1, h2⟩ := h.2.2 fu cs x hf hx; exact ⟨f a, hg a h1, by rw [hE]; exact h2⟩⟩
theorem Reads.int {N t : Nat} (ht : P.underlying t = some (.int .i64)) (hc : P.cellsOf t = 1) : Reads enc P w N t 1 (fun n : Int => [.int .i64 n]) (fun n => -9223372036854775808 ≤ n ∧ n ≤ 9223372036854775807) :=
  ⟨hc, fun _ => rfl, fun f cs x _ hx => by
    obtain ⟨n, rfl, _, wf⟩ := DataW.trod_int ht hx
    exact ⟨n, by simpa [Lit.wf, IntKind.min, IntKind.max, IntKind.signed, IntKind.bits] using wf, VRL.one (.int _ _)⟩⟩
theorem Reads.str {N t : Nat} (ht : P.underlying t = some .string) (hc : P.cellsOf t = 1) : Reads enc P w N t 1 (fun s : List UInt8 => [.str s]) (fun _ => True) :=
  ⟨hc, fun _ => rfl, fun f cs x _ hx => by
    obtain ⟨s, rfl, _, _⟩ := DataW.trod_string ht hx
    exact ⟨s.data.toList, trivial, VRL.one (VR.string s)⟩⟩
theorem Reads.bool {N t : Nat} (ht : P.underlying t = some .bool) (hc : P.cellsOf t = 1) : Reads enc P w N t 1 (fun b : Bool => [.bool b]) (fun _ => True) :=
  ⟨hc, fun _ => rfl, fun f cs x _ hx => by
    obtain ⟨b, rfl, _⟩ := DataW.trod_bool ht hx
    exact ⟨b, trivial, VRL.one (.bool b)⟩⟩
theorem Reads.slice {N t e n : Nat} {α : Type} [Inhabited α] {E : α → List AV} {G : α → Prop} (el : El) (mk : α → AV) (ht : P.underlying t = some (.slice e)) (hc : P.cellsOf t = 1) (h : Reads enc P w N e n E G) (hn0 : 0 < n) (hsz : el.sz = n)
    (hfit : ∀ a, (mk a).fits el = true) (hcell : ∀ a c, c < n → (mk a).cell c = (E a).getD c .undef) : Reads enc P w (N + 1) t 1 (fun l : List α => [.lst false el (l.map mk)]) (fun l => ∀ a ∈ l, G a) := by
  refine ⟨hc, fun _ => rfl, fun fuel cs x hf hx => ?_⟩
  rcases DataW.trod_slice ht hx with ⟨rfl, rfl⟩ | ⟨a, len, cap, elems, rest, k, hk, rfl, _, _, hl, _, hlen, hel, _, _⟩
  · exact ⟨[], by simp, VRL.one (.lstE _ _ _ _ (fun h => by cases h))⟩
  have each : ∀ i, i < len → ∃ q : α, G q ∧ ∃ cs', w.cells? 0 (a.add (i * P.cellsOf e)) (P.cellsOf e) = some cs' ∧ VRL (Ghost.all w) w (E q) cs' := fun i hi => by
    have h1 := hel i hi
    rw [List.getElem?_eq_getElem (by omega)] at h1
    obtain ⟨cs', h2, h3⟩ := Option.bind_eq_some_iff.1 h1
    obtain ⟨q, h4, h5⟩ := h.2.2 k cs' _ (by omega) h3
    exact ⟨q, h4, cs', h2, h5⟩
  obtain ⟨q, hq⟩ := Deep.choose_lt each
  refine ⟨(List.range len).map q, fun x hx => by obtain ⟨i, hi, rfl⟩ := List.mem_map.1 hx; exact (hq i (List.mem_range.1 hi)).1, VRL.one ?_⟩
  have hn := h.1
  by_cases h0 : len = 0
  · subst h0; exact .lstE _ _ _ _ (fun h => by cases h)
  have hcells : ∀ i c, i < len → c < n → ∃ v, w.cell? (a.add (i * n + c)) = some v ∧ VR (Ghost.all w) w ((E (q i)).getD c .undef) v := fun i c hi hcc => by
    obtain ⟨_, cs', h2, h3⟩ := hq i hi
    rw [hn] at h2
    obtain ⟨_, h4, h5⟩ := World.cells?_some h2
    have h6 := h5 c hcc
    rw [Deep.add_add, List.getElem?_eq_getElem (by omega)] at h6
    have h7 := h3.2 c (by rw [h.2.1]; exact hcc)
    rw [List.getD_eq_getElem?_getD (l := cs'), List.getElem?_eq_getElem (by omega)] at h7
    exact ⟨_, h6, h7⟩
  obtain ⟨v0, hv0, _⟩ := hcells 0 0 (by omega) (by omega)
  have hspot : a.spot = none := by
    have := World.cell?_spot hv0
    simpa [Addr.add] using this
  obtain ⟨b, off, sp⟩ := a
  simp only at hspot
  subst hspot
  have hlt : b < w.heap.size := by
    rw [add_plain] at hv0
    simp only [World.cell?] at hv0
    split at hv0
    · rename_i x hx; exact (Array.getElem?_eq_some_iff.1 hx).1
    · cases hv0
  have hget : ∀ i, i < len → (((List.range len).map q).map mk).getD i .undef = mk (q i) := fun i hi => by
    simp [List.getD_eq_getElem?_getD, hi]
  have := VR.lst (g := Ghost.all w) (w := w) false el (((List.range len).map q).map mk) b off cap hlt (fun h => by cases h) (by simpa using hl)
    (fun i hi => by rw [hget i (by simpa using hi)]; exact hfit _)
    (fun i c hi hcc => by
      obtain ⟨v, hv, _⟩ := hcells i c (by simpa using hi) (by omega)
      rw [add_plain] at hv
      rw [hsz, hv]; rfl)
    (fun i c hi hcc => by
      obtain ⟨v, hv, hr⟩ := hcells i c (by simpa using hi) (by omega)
      rw [add_plain] at hv
      rw [hget i (by simpa using hi), cellD, hsz, hv, hcell _ _ (by omega)]
      exact hr)
  simpa using this
def FieldsR (enc : TypeId × Value → H) (P : Program) (w : World) (N : Nat) (fs : List Field) (o : Nat) {α : Type} (E : α → List AV) (G : α → Prop) : Prop :=
  ∀ (cs : List Value) (fuel : Nat) (ys : List (DataW H × List MemPlace)), fuel ≤ N → (∀ (i : Nat) (f : Field), fs[i]? = some f → DataW.trod enc P w 0 (fun _ => true) true fuel f.type ((cs.drop f.offset).take (P.cellsOf f.type)) = ys[i]?) → ys.length = fs.length →
    ∃ a, G a ∧ VRL (Ghost.all w) w (E a) ((cs.drop o).take (E a).length)
theorem FieldsR.nil {N o : Nat} : FieldsR enc P w N [] o (fun _ : Unit => []) (fun _ => True) := fun cs fuel ys _ _ _ => ⟨(), trivial, by simpa using VRL.nil _ _⟩
theorem FieldsR.cons {N o n : Nat} {f : Field} {fs : List Field} {α β : Type} {E : α → List AV} {G : α → Prop} {E' : β → List AV} {G' : β → Prop} (h : Reads enc P w N f.type n E G) (ho : f.offset = o) (hk : FieldsR enc P w N fs (o + n) E' G') :
    FieldsR enc P w N (f :: fs) o (fun p : α × β => E p.1 ++ E' p.2) (fun p => G p.1 ∧ G' p.2) := by
  intro cs fuel ys hf hx hl
  cases ys with
  | nil => simp at hl
  | cons y ys =>
    have h0 := hx 0 f rfl
    rw [ho, h.1] at h0
    obtain ⟨a, g1, v1⟩ := h.2.2 fuel _ _ hf (by simpa using h0)
    obtain ⟨b, g2, v2⟩ := hk cs fuel ys hf (fun i f' hf' => by have := hx (i + 1) f' (by simpa using hf'); simpa using this) (by simpa using hl)
    refine ⟨(a, b), ⟨g1, g2⟩, ?_⟩
    have := v1.app v2
    have hlen := h.2.1 a
    have e : (cs.drop o).take n ++ (cs.drop (o + n)).take (E' b).length = (cs.drop o).take (E a ++ E' b).length := by
      rw [List.length_append, hlen, List.take_add, List.drop_drop]
    rwa [e] at this
theorem Reads.struct {N t n : Nat} {fs : Array Field} {α : Type} {E : α → List AV} {G : α → Prop} (ht : P.underlying t = some (.struct fs)) (hc : P.cellsOf t = n) (hE : ∀ a, (E a).length = n) (h : FieldsR enc P w N fs.toList 0 E G) : Reads enc P w (N + 1) t n E G := by
  refine ⟨hc, hE, fun fuel cs x hf hx => ?_⟩
  obtain ⟨xs, k, hk, _, hlen, hxl, hfs⟩ := DataW.trod_struct ht hx
  obtain ⟨a, g, v⟩ := h cs k xs (by omega) (fun i f hf => hfs i f (by simpa using hf)) (by simpa using hxl)
  refine ⟨a, g, ?_⟩
  rw [hE, List.drop_zero, List.take_of_length_le (by omega)] at v
  exact v
theorem Reads.deep {t n : Nat} {α : Type} {E : α → List AV} {G : α → Prop} (h : ∀ N, Reads enc P w N t n E G) {v : Value} {d : DataW H} {ps : List MemPlace} (hd : DataW.Trod enc P w 0 (fun _ => true) true t v d ps) : ∃ a, G a ∧ VRL (Ghost.all w) w (E a) v.cells.toList := by
  obtain ⟨f, hf⟩ := hd
  exact (h f).2.2 f _ _ (Nat.le_refl _) hf
end
end Go.AM
namespace Go.Proofs.YtdohdkdejmhgnaaGreatDoor
open Go.AM
set_option maxRecDepth 8000
section
variable {H : Type} {enc : TypeId × Value → H} {w : World}
abbrev RD (enc : TypeId × Value → H) (w : World) (N : Nat) (t : TypeId) (n : Nat) {α : Type} (E : α → List AV) (G : α → Prop) : Prop := Reads enc Tryz.prog w N t n E G
theorem rd_int (N : Nat) {t : TypeId} (ht : Tryz.prog.underlying t = some (.int .i64)) (hc : Tryz.prog.cellsOf t = 1) : RD enc w N t 1 (fun n : Int => [I n]) rng := Reads.int ht hc
theorem rd_str (N : Nat) : RD enc w N 9 1 (fun s : Str => [.str s]) (fun _ => True) := Reads.str Tryz.underlying9 (by kernel_rfl)
theorem rd_num (N : Nat) : RD enc w N 3 1 (fun n : Int => [I n]) rng := rd_int N Tryz.underlying3 (by kernel_rfl)
def cVal (v : Val) : List AV := [I v.kind, I v.n, .str v.s]
theorem rd_val (N : Nat) : RD enc w (N + 1) 124 3 cVal rngV := by
  have h := Reads.struct (enc := enc) (w := w) (N := N) (n := 3) Tryz.underlying124 (by kernel_rfl) (fun _ => rfl) (.cons (rd_int N Tryz.underlying122 (by kernel_rfl)) rfl (.cons (rd_num N) rfl (.cons (rd_str N) rfl .nil)))
  exact h.map (fun p => ⟨p.1, p.2.1, p.2.2.1⟩) (fun _ => rfl) (fun _ => rfl) (fun p h => h.2.1)
theorem rd_vals (N : Nat) : RD enc w (N + 2) 22 1 (fun l : List Val => [eVals l]) (fun l => ∀ v ∈ l, rngV v) :=
  Reads.slice EV eVal Tryz.underlying22 (by kernel_rfl) (rd_val N) (by decide) rfl (fun _ => rfl) (fun _ _ _ => rfl)
theorem rd_rows (N : Nat) : RD enc w (N + 3) 25 1 (fun l : List (List Val) => [eRows l]) (fun l => ∀ r ∈ l, ∀ v ∈ r, rngV v) := by
  refine Reads.slice E1 eVals Tryz.underlying25 (by kernel_rfl) (rd_vals N) (by decide) rfl (fun _ => rfl) ?_
  intro s c hc
  have h0 : c = 0 := by omega
  subst h0; rfl
theorem rd_ints (N : Nat) : RD enc w (N + 1) 24 1 (fun l : List Int => [eInts l]) (fun l => ∀ n ∈ l, rng n) := by
  refine Reads.slice E1 eInt Tryz.underlying24 (by kernel_rfl) (rd_num N) (by decide) rfl (fun _ => rfl) ?_
  intro s c hc
  have h0 : c = 0 := by omega
  subst h0; rfl
structure OutS where
  err : Int
  rules : List Int
  rows : List (List Val)
deriving Inhabited
def cOutS (o : OutS) : List AV := [I o.err, eInts o.rules, eRows o.rows]
theorem rd_out (N : Nat) : RD enc w (N + 4) 27 3 cOutS (fun o => rng o.err ∧ (∀ n ∈ o.rules, rng n) ∧ ∀ r ∈ o.rows, ∀ v ∈ r, rngV v) := by
  have h := Reads.struct (enc := enc) (w := w) (N := N + 3) (n := 3) Tryz.underlying27 (by kernel_rfl) (fun _ => rfl) (.cons (rd_int _ Tryz.underlying23 (by kernel_rfl)) rfl (.cons (rd_ints (N + 2)) rfl (.cons (rd_rows N) rfl .nil)))
  exact h.map (fun p => ⟨p.1, p.2.1, p.2.2.1⟩) (fun _ => rfl) (fun _ => rfl) (fun p h => ⟨h.1, h.2.1, h.2.2.1⟩)
theorem rd_ent (N : Nat) : RD enc w (N + 5) 29 6 cEnt rngEnt := by
  have h := Reads.struct (enc := enc) (w := w) (N := N + 4) (n := 6) Tryz.underlying29 (by kernel_rfl) (fun _ => rfl) (.cons (rd_str _) rfl (.cons (rd_num _) rfl (.cons (rd_vals (N + 2)) rfl (.cons (rd_out N) rfl .nil))))
  exact h.map (fun p => (⟨p.1, p.2.1, p.2.2.1, p.2.2.2.1.err, p.2.2.2.1.rules, p.2.2.2.1.rows⟩ : Ent)) (fun _ => rfl) (fun _ => rfl) (fun p h => ⟨h.2.1, h.2.2.1, h.2.2.2.1.1, h.2.2.2.1.2.1, h.2.2.2.1.2.2⟩)
theorem ent_of {v : Value} {d : DataW H} {ps : List MemPlace} {base : Nat} (hval : Value.okWide Tryz.prog w .any base 29 v) (hd : DataW.Trod enc Tryz.prog w 0 (fun _ => true) true 29 v d ps) : ∃ e : Ent, rngEnt e ∧ VR (Ghost.all w) w (eEnt e) v := by
  obtain ⟨cs, rfl, _⟩ := Go.WideShapes.okWide_struct Tryz.underlying29 hval
  obtain ⟨t, h1, h2⟩ := Reads.deep (fun N => by
    have := rd_ent (enc := enc) (w := w) N
    exact ⟨this.1, this.2.1, fun f cs x hf hx => this.2.2 f cs x (by omega) hx⟩) hd
  exact ⟨t, h1, VRL.agg h2 rfl⟩
end
def vEnt : Value := .agg #[.string ByteArray.empty, .int .i64 0, .slice none 0 0, .int .i64 0, .slice none 0 0, .slice none 0 0]
end Go.Proofs.YtdohdkdejmhgnaaGreatDoor
namespace Go.Proofs.YtdohdkdejmhgnaaGreatDoor
open Go.AM Go.ChangeShapes Go.WideShapes Go.ChangeAt Go.RowKit
theorem own : ownKnob Tryz.prog.godebug = none := by kernel_rfl
theorem kids : Kids Tryz.prog (· < Tryz.prog.types.size) := kids_rows (by kernel_rfl) (by kernel_rfl)
theorem full : ∀ t e, t < Tryz.prog.types.size → Tryz.prog.underlying t = some (.slice e) → 0 < Tryz.prog.cellsOf e := slices_full_of Tryz.prog (by kernel_rfl)
def laidL : List (String × DataW Unit) := Rows.journalNilRow.laid
theorem pow_of_laid {W : World} (_ : laidMetH Tryz.prog laidL W) : GlobR (Ghost.all W) W := ⟨fun b hb => (by cases hb), trivial⟩
def litOf : DataW Unit → List Value
  | .lit (.int k n) => [.int k n]
  | .agg l => l.map fun d => match d with
    | .lit (.int k n) => .int k n
    | _ => Go.undef
  | _ => [Go.undef]
def litsOf : DataW Unit → Array Value
  | .agg l => (l.flatMap litOf).toArray
  | _ => #[]
def laidObj (d : DataW Unit) : Obj → Obj
  | .cells _ t fz => .cells (litsOf d) t fz
  | o => o
noncomputable def laidWorld (os : Os) : World :=
  { World.holding Tryz.prog os ⟨#[], #[], []⟩ with heap := ((World.holding Tryz.prog os ⟨#[], #[], []⟩).heap.modify 2 (laidObj Rows.laid_unicode_utf8_acceptRanges)).modify 1 (laidObj Rows.laid_unicode_utf8_first) }
theorem laid_met (os : Os) (args : Array Value) : laidMetH Tryz.prog laidL ((laidWorld os).forCall (fun _ _ => 0) ⟨#[], args, []⟩).memory :=
  (laidMet_of_run' 8 (by kernel_rfl) (by kernel_rfl) : laidMet Tryz.prog laidL ((laidWorld os).forCall (fun _ _ => 0) ⟨#[], args, []⟩).memory)
set_option maxRecDepth 100000 in
theorem stepL {H : Type} {enc : TypeId × Value → H} {os : Os} {f : FuncId} {fn : Func} {s : ChangeSpec} (args0 : Array Value)
    (started : os.Started) (noInit : Tryz.checked.prog.inits.idxOf? f = none) (hfn : Tryz.checked.prog.funcs[f]? = some fn)
    (hv : ((laidWorld os).forCall (fun _ _ => 0) ⟨#[], args0, []⟩).variablesB Tryz.checked.prog = true)
    (hr : (((laidWorld os).forCall (fun _ _ => 0) ⟨#[], args0, []⟩).heap.toList.drop Tryz.checked.prog.globals.size).take ((begin Tryz.checked.prog (fun _ _ => 0) default).world.heap.size - Tryz.checked.prog.globals.size) =
      (begin Tryz.checked.prog (fun _ _ => 0) default).world.heap.toList.drop Tryz.checked.prog.globals.size)
    (hok : Input.okWideB Tryz.checked.prog ((laidWorld os).forCall (fun _ _ => 0) ⟨#[], args0, []⟩) f ⟨#[], args0, []⟩ = true)
    (hpre : s.preB enc Tryz.checked.prog fn [] false ((laidWorld os).forCall (fun _ _ => 0) ⟨#[], args0, []⟩).memory args0 8 = true)
    (hsz : s.sizedB enc Tryz.checked.prog fn false ((laidWorld os).forCall (fun _ _ => 0) ⟨#[], args0, []⟩).memory args0 8 = true)
    (contract : ∀ (W : World) (base : Nat) (args : Array Value) (ds gs : List (DataW H)) (before : List MemPlace),
      (∀ (j : Nat) t v, fn.params[j]? = some t → args[j]? = some v → Value.okWide Tryz.prog W .any base t v) →
      DataW.Whole enc Tryz.prog fn.params.toList s.vars false W args.toList ds gs before → GlobR (Ghost.all W) W →
      Calls Tryz.prog f args W fun e W' => ∃ v, e = .returned v ∧ s.post enc Tryz.prog fn false true false false W args v W') :
    ReturnsInHanded {} Tryz.checked os f .any (fun w args => (s.pre enc Tryz.checked.prog fn [] false w args ∧ laidMetH Tryz.prog laidL w) ∧ sizedMet enc Tryz.checked.prog fn (OpenSpec.ofChange s) false w args) (s.post enc Tryz.checked.prog fn false true false false) := by
  refine returnsInHanded_of_change_and (C := Tryz.checked) (X := fun w _ => laidMetH Tryz.prog laidL w) (fun _ _ _ hh h => h.of_heap hh) own started noInit hfn
    (ChangeSpec.witness_at (enc := enc) (C := Tryz.checked) (os := os) (X := fun w _ => laidMetH Tryz.prog laidL w) false (laidWorld os) args0 8 rfl hv hr hok hpre hsz (laid_met os _)) ?_
  intro W base args ds gs before h1 h2 _ _ hL _
  exact contract W base args ds gs before h1 h2 (pow_of_laid hL)
theorem args2 {a b : AV} {x y : Value} {g : Ghost} {w : World} (h1 : VR g w a x) (h2 : VR g w b y) : ∀ i, i < [a, b].length → VR g w ([a, b].getD i .undef) (#[x, y].getD i Go.undef) := by
  intro i hi
  match i, hi with
  | 0, _ => exact h1
  | 1, _ => exact h2
theorem goes_gen (P : Program) (h : P.funcs.any Func.goes = false) (f : FuncId) : P.goes f = false := by
  unfold Program.goes
  rw [h, Bool.and_false, Bool.or_false, List.any_eq_false]
  intro g _
  cases hg : P.funcs[g]? with
  | none => simp
  | some fn =>
    rw [Array.any_eq_false] at h
    obtain ⟨hl, rfl⟩ := Array.getElem?_eq_some_iff.1 hg
    simpa using h g hl
theorem goesBy_gen (P : Program) (h : P.funcs.any Func.goes = false) (c : OpenClaim) (hs : c.start = .entering) : false = c.goesBy P := by
  unfold OpenClaim.goesBy Program.goesAt Program.goesFrom
  rw [hs]
  cases P.funcNamed c.func with
  | none => rfl
  | some f => show false = (P.goes f || false); rw [goes_gen P h]; rfl
theorem goes_none : Tryz.pinned.checked.prog.funcs.any Func.goes = false := by kernel_rfl
theorem fx_laid : laidOutB Tryz.checked.prog = true := by kernel_rfl
theorem fx_maps : mapsRowed Tryz.checked.prog = true := by kernel_rfl
theorem fx_stops : Tryz.checked.prog.stopsHeard = true := by kernel_rfl
theorem fx_enter : Tryz.checked.prog.mayEnter = true := by kernel_rfl
end Go.Proofs.YtdohdkdejmhgnaaGreatDoor
