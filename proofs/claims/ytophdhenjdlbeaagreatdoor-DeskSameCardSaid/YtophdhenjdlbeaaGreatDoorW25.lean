/- Part of a proof: see Root. -/
import Derived.Test.YtophdhenjdlbeaaGreatDoorW24
import Derived.WalkKit
import Derived.ProofKit
import Derived.OpenShut
import Derived.ReadAgain
import Derived.Deep.SlicePairs
import Derived.Test.YtophdhenjdlbeaaGreatDoorRows
import Derived.SevenTiedAt
import Derived.LaidLaws
import Derived.LaidHandle
import Derived.Lib.LaidTab
set_option linter.unnecessarySimpa false
set_option linter.unusedSectionVars false
set_option linter.unusedSimpArgs false
set_option linter.unusedVariables false
namespace Go.Proofs.YtophdhenjdlbeaaGreatDoor
open Go.AM
set_option maxRecDepth 4000
theorem slices_Equal_Named (l m : List Named) (hl : l.length ≤ 2 ^ 60) (hm : m.length ≤ 2 ^ 60) : CallF Tryz.prog n_slices_Equal_Named [eNameds l, eNameds m] (.bool (eqL sameN l m)) := by
  simp only [eNameds]
  refine CallF.of_nil (of_slices_Equal_Named (by simp) ?_) (by simp)
  unfold b_slices_Equal_Named WpR
  intro Q hQr hQn hQp
  repeat' first | refine go_ ?_ | refine br_ (fun hw => ?_) (fun hw => ?_) <;> try omega | fail
  · refine leafE ?_ rfl
    rw [eqL_len (by omega)]
  have hlm : l.length = m.length := by omega
  with_reducible refine loop_i [4, 5, 13, 14, 15, 16, 17, 18, 19, 20, 21, 22, 23, 24, 25] (fun i : Nat => [(13, I i)]) (fun _ => []) (fun i => i ≤ l.length ∧ ∀ k, k < i → sameN (l.getD k default) (m.getD k default) = true) (fun i => l.length - i) (0) ?_ ?_ ?_ ?_
  · simp
  · rfl
  · exact at_
  rintro i r ⟨h1, h2⟩
  by_cases hi : i < l.length
  · have hb : sameN (l.getD i default) (m.getD i default) = (((l.getD i default).name == (m.getD i default).name) && ((l.getD i default).n == (m.getD i default).n)) := rfl
    repeat' first | refine go_ ?_ | refine br_ (fun hw => ?_) (fun hw => ?_) <;> try omega | fail
    · refine leafE ?_ rfl
      rw [eqL_at (p := sameN) hi (by rw [hb, ← Bool.not_eq_true]; simp_all) (by omega)]
    · refine ⟨i + 1, ?_, ?_, by first | rfl | (simp [go_sem]; done), ou_, at_⟩ <;> (try dsimp only)
      · exact ⟨by omega, before_succ h2 (by rw [hb]; simp_all)⟩
      · omega
  · repeat' first | refine go_ ?_ | refine br_ (fun hw => ?_) (fun hw => ?_) <;> try omega | fail
    refine leafE ?_ rfl
    rw [eqL_non (p := sameN) hlm (fun k hk => h2 k (by omega))]
theorem slices_EqualFunc_Entry (fn : FuncId) (cap : List AV) (hcap : AV.purL cap = true) (p : Ent → Ent → Bool) (l m : List Ent)
    (h : ∀ k, k < l.length → k < m.length → CallF Tryz.prog fn (eEnt (l.getD k default) :: eEnt (m.getD k default) :: cap) (.bool (p (l.getD k default) (m.getD k default)))) (hl : l.length ≤ 2 ^ 62) (hm : m.length ≤ 2 ^ 62) :
    CallF Tryz.prog n_slices_EqualFunc_Entry [eEnts l, eEnts m, .fn (.func fn) [] cap] (.bool (eqL p l m)) := by
  simp only [eEnts]
  refine CallF.of_nil (of_slices_EqualFunc_Entry (by simp) ?_) (by simp [AV.pur, AV.purL, hcap])
  unfold b_slices_EqualFunc_Entry WpR
  intro Q hQr hQn hQp
  repeat' first | refine go_ ?_ | refine br_ (fun hw => ?_) (fun hw => ?_) <;> try omega | fail
  · refine leafE ?_ rfl
    rw [eqL_len (by omega)]
  have hlm : l.length = m.length := by omega
  with_reducible refine loop_i [6, 7, 8, 9, 17, 18, 19, 20, 21, 22, 23, 24, 25, 26, 27, 28, 29, 30, 31] (fun p : Nat × List AObj => [(17, I p.1)]) (fun p => p.2) (fun q => q.1 ≤ l.length ∧ ∀ k, k < q.1 → p (l.getD k default) (m.getD k default) = true) (fun p => l.length - p.1) (0, []) ?_ ?_ ?_ ?_
  · simp
  · rfl
  · exact at_
  rintro ⟨i, τ⟩ r ⟨h1, h2⟩
  dsimp only at h1 h2
  by_cases hi : i < l.length
  · have hy := h i hi (by omega)
    simp only [eEnt, cEnt, eInts, eRows, eVals] at hy
    repeat' first | refine go_ ?_ | refine cf_ hy ?_ | refine br_ (fun hw => ?_) (fun hw => ?_) <;> try omega | fail
    · refine leafE ?_ rfl
      rw [eqL_at hi hw (by omega)]
    · refine ⟨(i + 1, τ ++ [.cells [.str (l.getD i default).table, I (l.getD i default).ver, .lst false EV ((l.getD i default).input.map eVal), I (l.getD i default).err, .lst false E1 ((l.getD i default).rules.map eInt), .lst false E1 ((l.getD i default).rows.map eVals)]] ++ [.cells [.str (m.getD i default).table, I (m.getD i default).ver, .lst false EV ((m.getD i default).input.map eVal), I (m.getD i default).err, .lst false E1 ((m.getD i default).rules.map eInt), .lst false E1 ((m.getD i default).rows.map eVals)]]), ?_, ?_, by first | rfl | (simp [go_sem]; done), ou_, at_⟩ <;> (try dsimp only)
      · exact ⟨by omega, before_succ h2 hw⟩
      · omega
  · repeat' first | refine go_ ?_ | refine br_ (fun hw => ?_) (fun hw => ?_) <;> try omega | fail
    refine leafE ?_ rfl
    rw [eqL_non hlm (fun k hk => h2 k (by omega))]
theorem desk_Same (a b : Rep) (ha : smR a) (hb : smR b) : CallF Tryz.prog n_desk_Same [eRep a, eRep b] (.bool (sameR a b)) := by
  have c1 := dtable_Same a.table b.table ha.1 hb.1
  have c2 := slices_Equal_Named a.names b.names ha.2.1 hb.2.1
  have c3 := slices_EqualFunc_Entry n_entry_Same [] rfl sameE a.ents b.ents (fun k h1 h2 => entry_Same _ _ (ha.2.2.2 _ (getD_mem h1)) (hb.2.2.2 _ (getD_mem h2))) (by have := ha.2.2.1; omega) (by have := hb.2.2.1; omega)
  have hS : sameR a b = (decide (a.err = b.err) && decide (a.n = b.n) && sameTab a.table b.table && eqL sameN a.names b.names && eqL sameE a.ents b.ents && (decide (a.ma = b.ma) && decide (a.mb = b.mb) && a.mc == b.mc && a.md == b.md)) := rfl
  generalize sameTab a.table b.table = v1 at *
  generalize eqL sameN a.names b.names = v2 at *
  generalize eqL sameE a.ents b.ents = v3 at *
  obtain ⟨E, hE⟩ : ∃ E, sameR a b = E := ⟨_, rfl⟩
  rw [hE] at hS ⊢
  clear hE
  simp only [eRep, cRep, eTable, cTable, eCols, eRules, eNameds, eEnts] at c1 c2 c3 ⊢
  refine CallF.of_nil (of_desk_Same (by simp) ?_) (by simp)
  unfold b_desk_Same WpR
  intro Q hQr hQn hQp
  dsimp (config := { zeta := true }) only
  repeat' first | refine go_ ?_ | refine cf_ c1 ?_ | refine cf_ c2 ?_ | refine cf_ c3 ?_ | refine br_ (fun hw => ?_) (fun hw => ?_) <;> try omega | fail
  all_goals first
    | exact ab_
    | (refine leafE ?_ rfl; refine congrArg AV.bool ?_; rw [hS, Bool.eq_iff_iff]; simp_all; done)
theorem eqL_refl {α : Type} {p : α → α → Bool} (h : ∀ x, p x x = true) : ∀ l : List α, eqL p l l = true
  | [] => rfl
  | x :: r => by simp only [eqL, h, eqL_refl h r, Bool.and_self]
theorem sameTab_refl (t : Table) : sameTab t t = true := by
  have hv : ∀ l : List Val, eqL (fun x y => x == y) l l = true := eqL_refl (fun x => by rw [val_beq]; simp)
  have hs : ∀ l : List Str, eqL (fun x y => x == y) l l = true := eqL_refl (fun x => by simp)
  have hc : ∀ l : List Col, eqL sameCol l l = true := eqL_refl (fun x => by simp [sameCol, hv])
  have hr : ∀ l : List Rule, eqL sameRule l l = true := eqL_refl (fun x => by simp [sameRule, hs])
  simp [sameTab, hc, hr]
theorem sameE_refl (e : Ent) : sameE e e = true := by
  have hv : ∀ l : List Val, eqL (fun x y => x == y) l l = true := eqL_refl (fun x => by rw [val_beq]; simp)
  have hi : ∀ l : List Int, eqL (fun x y => x == y) l l = true := eqL_refl (fun x => by simp)
  have hr : ∀ l : List (List Val), eqL (eqL fun x y => x == y) l l = true := eqL_refl hv
  simp [sameE, hv, hi, hr]
theorem sameR_refl (a : Rep) : sameR a a = true := by
  simp [sameR, sameTab_refl, eqL_refl sameE_refl, eqL_refl (p := sameN) (fun x => by simp [sameN])]
set_option maxHeartbeats 4000000 in
theorem law28_DeskSame (a b : Rep) (ha : smR a) (hb : smR b) : CallF Tryz.prog n_law28_DeskSame [eRep a, eRep b] (.bool true) := by
  have cL := law28_lives
  have p1 := desk_Same a b ha hb
  have p2 := ref28_Same a b ha hb
  have p3 := desk_Same a a ha ha
  have p4 := desk_Same b b hb hb
  rw [sameR_refl] at p3 p4
  have g1 := ha.2.1
  have g2 := hb.2.1
  have g3 := ha.2.2.1
  have g4 := hb.2.2.1
  generalize sameR a b = v at p1 p2
  simp only [eRep, cRep, eTable, cTable, eCols, eRules, eNameds, eEnts] at *
  refine CallF.of_nil (of_law28_DeskSame (by simp) ?_) (by simp)
  unfold b_law28_DeskSame WpR
  intro Q hQr hQn hQp
  repeat' first | refine go_ ?_ | refine cf_ cL ?_ | refine cf_ p1 ?_ | refine cf_ p2 ?_ | refine cf_ p3 ?_ | refine cf_ p4 ?_ | refine br_ (fun hw => ?_) (fun hw => ?_) <;> try omega | fail
  all_goals first
    | exact ab_
    | (refine leafE ?_ rfl; first | rfl | (simp; done) | (simp_all; done))
end Go.Proofs.YtophdhenjdlbeaaGreatDoor
namespace Go.AM
open Go.ChangeShapes Go.WideShapes
section
variable {H : Type} {enc : TypeId × Value → H} {P : Program} {w w' : World} {base : Nat} {spare : Nat → Bool} {held : Bool}
theorem DataW_TrodAll_carry : ∀ {ts : List TypeId} {vs : List Value} {ds : List (DataW H)} {ps : List MemPlace}, DataW.TrodAll enc P w base spare held ts vs ds ps → (∀ p ∈ ps, w.sameAt w' p) → DataW.TrodAll enc P w' base spare held ts vs ds ps
  | [], [], [], _, h, _ => h
  | _ :: _, _ :: _, _ :: _, _, ⟨p, q, ⟨n, hn⟩, h2, e⟩, hs => ⟨p, q, ⟨n, DataW.trod_carry n _ _ _ hn (fun x hx => hs x (by rw [e]; exact List.mem_append_left _ hx))⟩, DataW_TrodAll_carry h2 (fun x hx => hs x (by rw [e]; exact List.mem_append_right _ hx)), e⟩
theorem keptBut_of_heap {may : MemPlace → Prop} (h1 : w'.os = w.os) (h2 : w'.output = w.output) (h3 : ∀ b, b < w.heap.size → w'.heap[b]? = w.heap[b]?) : w.keptBut w' may := by
  refine ⟨h1, h2, fun i hi => ?_⟩
  rw [h3 i hi]
  split
  · rename_i a b ha hb
    rw [ha] at hb
    cases Option.some.inj hb
    exact ⟨rfl, rfl, rfl, fun _ _ => rfl⟩
  · rename_i a b ha hb
    rw [ha] at hb
    cases Option.some.inj hb
    exact .inr ⟨rfl, rfl⟩
  · rfl
theorem sameAt_of_heap (h3 : ∀ b, b < w.heap.size → w'.heap[b]? = w.heap[b]?) {p : MemPlace} (hp : p.block < w.heap.size) : w.sameAt w' p := by
  cases p with
  | cell b off => exact cell?_of_heap (h3 b hp) off none
  | map b => exact h3 b hp
def Ghost.all (w : World) : Ghost := Ghost.bare (· < w.heap.size)
theorem Said_of_CallF {f : FuncId} {fn : Func} {s : ChangeSpec} {t : TypeId} {args' : List AV} {W : World} {args : Array Value} {ds gs : List (DataW H)} {before : List MemPlace}
    (h : CallF P f args' (.bool true)) (hW : DataW.Whole enc P fn.params.toList s.vars false W args.toList ds gs before) (hG : GlobR (Ghost.all W) W)
    (K : Kids P (· < P.types.size)) (hz : ∀ t e, t < P.types.size → P.underlying t = some (.slice e) → 0 < P.cellsOf e) (hps : ∀ t ∈ fn.params.toList, t < P.types.size)
    (hvars : s.vars = []) (hrt : fn.resultTypes = #[t]) (ht : P.underlying t = some .bool) (hfn : s.fn H (ds ++ gs) = { results := [.lit (.bool true)], args := ds, vars := [] })
    (hl : args'.length = args.size) (hv : ∀ i, i < args'.length → VR (Ghost.all W) W (args'.getD i .undef) (args.getD i Go.undef)) :
    Calls P f args W fun e W' => ∃ v, e = .returned v ∧ s.post enc P fn false true false false W args v W' := by
  refine ((h []).2 (Ghost.all W) W args (Rel.bare (fun _ h => h) hG) hl hv).mono ?_
  rintro e W' ⟨out, g', σ', hR, hE, hO, rfl, rfl⟩
  have hfr : ∀ b, b < W.heap.size → W'.heap[b]? = W.heap[b]? := fun b hb => hE.frame b hb not_tracked_nil
  cases e with
  | panicked c => exact hO.elim
  | outgrown => exact hO.elim
  | returned v =>
    have hb : v = .bool true := by cases hO; rfl
    subst hb
    refine ⟨_, rfl, ds, gs, before, [], before, [], hW, ?_, ?_, ?_, keptBut_of_heap hE.os hE.output hfr, fun h => by cases h⟩
    · rw [hfn, hrt]
      exact trodAll_mk1 (RowKit.shut_bool ht true)
    · rw [hfn]
      have hlt := hW.lt
      obtain ⟨p, q, h1, h2, rfl, _, _⟩ := hW
      rw [hvars] at h2
      obtain ⟨rfl, rfl⟩ := trodVars_none h2
      rw [List.append_nil] at hlt ⊢
      refine DataW_TrodAll_carry (DataW.TrodAll.respare K hz hps h1 (fun x hx => by simpa using hlt x hx)) (fun x hx => sameAt_of_heap hfr (hlt x hx))
    · rw [hfn, hvars]
      rfl
theorem VR.string {g : Ghost} {w : World} (s : ByteArray) : VR g w (.str s.data.toList) (.string s) := VR.str s.data.toList
end
end Go.AM
namespace Go.AM
open Go.ChangeShapes Go.WideShapes
def VRL (g : Ghost) (w : World) (az : List AV) (vs : List Value) : Prop := az.length = vs.length ∧ ∀ i, i < az.length → VR g w (az.getD i .undef) (vs.getD i Go.undef)
theorem VRL.nil (g : Ghost) (w : World) : VRL g w [] [] := ⟨rfl, fun i hi => by cases hi⟩
theorem VRL.app {g : Ghost} {w : World} {a b : List AV} {x y : List Value} (h : VRL g w a x) (k : VRL g w b y) : VRL g w (a ++ b) (x ++ y) := by
  have h1 := h.1
  refine ⟨by simp [h.1, k.1], fun i hi => ?_⟩
  rw [List.length_append] at hi
  by_cases hl : i < a.length
  · have := h.2 i hl
    rw [List.getD_eq_getElem?_getD, List.getD_eq_getElem?_getD] at this ⊢
    rw [List.getElem?_append_left hl, List.getElem?_append_left (by omega)]
    exact this
  · have := k.2 (i - a.length) (by omega)
    rw [List.getD_eq_getElem?_getD, List.getD_eq_getElem?_getD] at this ⊢
    rw [List.getElem?_append_right (by omega), List.getElem?_append_right (by omega), ← h1]
    exact this
theorem VRL.one {g : Ghost} {w : World} {a : AV} {x : Value} (h : VR g w a x) : VRL g w [a] [x] := ⟨rfl, fun i hi => by
  match i, hi with
  | 0, _ => exact h⟩
theorem VRL.agg {g : Ghost} {w : World} {az : List AV} {vs : Array Value} (h : VRL g w az vs.toList) (hs : az.all AV.scalar = true) : VR g w (.agg az) (.agg vs) := by
  refine .agg az vs (by simpa using h.1) hs (fun i hi => ?_)
  have := h.2 i hi
  simpa [List.getD_eq_getElem?_getD, Array.getD_eq_getD_getElem?] using this
section
variable {H : Type} {enc : TypeId × Value → H} {P : Program} {w : World}
def Reads (enc : TypeId × Value → H) (P : Program) (w : World) (N : Nat) (t : TypeId) (n : Nat) {α : Type} (E : α → List AV) (G : α → Prop) : Prop :=
  P.cellsOf t = n ∧ (∀ a, (E a).length = n) ∧ ∀ fuel cs x, fuel ≤ N → DataW.trod enc P w 0 (fun _ => true) true fuel t cs = some x → ∃ a, G a ∧ VRL (Ghost.all w) w (E a) cs
theorem Reads.weak {N t n : Nat} {α : Type} {E : α → List AV} {G G' : α → Prop} (h : Reads enc P w N t n E G) (hg : ∀ a, G a → G' a) : Reads enc P w N t n E G' :=
  ⟨h.1, h.2.1, fun f cs x hf hx => by obtain ⟨a, h1, h2⟩ := h.2.2 f cs x hf hx; exact ⟨a, hg a h1, h2⟩⟩
theorem Reads.map {N t n : Nat} {α β : Type} {E : α → List AV} {G : α → Prop} {E' : β → List AV} {G' : β → Prop} (h : Reads enc P w N t n E G) (f : α → β) (hE : ∀ a, E' (f a) = E a) (hl : ∀ b, (E' b).length = n) (hg : ∀ a, G a → G' (f a)) : Reads enc P w N t n E' G' :=
  ⟨h.1, hl, fun fu cs x hf hx => by obtain ⟨a, h1, h2⟩ := h.2.2 fu cs x hf hx; exact ⟨f a, hg a h1, by rw [hE]; exact h2⟩⟩
theorem Reads.int {N t : Nat} (ht : P.underlying t = some (.int .i64)) (hc : P.cellsOf t = 1) : Reads enc P w N t 1 (fun n : Int => [.int .i64 n]) (fun n => -9223372036854775808 ≤ n ∧ n ≤ 9223372036854775807) :=
  ⟨hc, fun _ => rfl, fun f cs x _ hx => by
    obtain ⟨n, rfl, _, wf⟩ := DataW.trod_int ht hx
    exact ⟨n, by simpa [Lit.wf, IntKind.min, IntKind.max, IntKind.signed, IntKind.bits] using wf, VRL.one (.int _ _)⟩⟩
theorem Reads.str {N t : Nat} (ht : P.underlying t = some .string) (hc : P.cellsOf t = 1) : Reads enc P w N t 1 (fun s : List UInt8 => [.str s]) (fun _ => True) :=
  ⟨hc, fun _ => rfl, fun f cs x _ hx => by
    obtain ⟨s, rfl, _, _⟩ := DataW.trod_string ht hx
    exact ⟨s.data.toList, trivial, VRL.one (VR.string s)⟩⟩
theorem Reads.bool {N t : Nat} (ht : P.underlying t = some .bool) (hc : P.cellsOf t = 1) : Reads enc P w N t 1 (fun b : Bool => [.bool b]) (fun _ => True) :=
  ⟨hc, fun _ => rfl, fun f cs x _ hx => by
    obtain ⟨b, rfl, _⟩ := DataW.trod_bool ht hx
    exact ⟨b, trivial, VRL.one (.bool b)⟩⟩
theorem Reads.slice {N t e n : Nat} {α : Type} [Inhabited α] {E : α → List AV} {G : α → Prop} (el : El) (mk : α → AV) (ht : P.underlying t = some (.slice e)) (hc : P.cellsOf t = 1) (h : Reads enc P w N e n E G) (hn0 : 0 < n) (hsz : el.sz = n)
    (hfit : ∀ a, (mk a).fits el = true) (hcell : ∀ a c, c < n → (mk a).cell c = (E a).getD c .undef) : Reads enc P w (N + 1) t 1 (fun l : List α => [.lst false el (l.map mk)]) (fun l => ∀ a ∈ l, G a) := by
  refine ⟨hc, fun _ => rfl, fun fuel cs x hf hx => ?_⟩
  rcases DataW.trod_slice ht hx with ⟨rfl, rfl⟩ | ⟨a, len, cap, elems, rest, k, hk, rfl, _, _, hl, _, hlen, hel, _, _⟩
  · exact ⟨[], by simp, VRL.one (.lstE _ _ _ _ (fun h => by cases h))⟩
  have each : ∀ i, i < len → ∃ q : α, G q ∧ ∃ cs', w.cells? 0 (a.add (i * P.cellsOf e)) (P.cellsOf e) = some cs' ∧ VRL (Ghost.all w) w (E q) cs' := fun i hi => by
    have h1 := hel i hi
    rw [List.getElem?_eq_getElem (by omega)] at h1
    obtain ⟨cs', h2, h3⟩ := Option.bind_eq_some_iff.1 h1
    obtain ⟨q, h4, h5⟩ := h.2.2 k cs' _ (by omega) h3
    exact ⟨q, h4, cs', h2, h5⟩
  obtain ⟨q, hq⟩ := Deep.choose_lt each
  refine ⟨(List.range len).map q, fun x hx => by obtain ⟨i, hi, rfl⟩ := List.mem_map.1 hx; exact (hq i (List.mem_range.1 hi)).1, VRL.one ?_⟩
  have hn := h.1
  by_cases h0 : len = 0
  · subst h0; exact .lstE _ _ _ _ (fun h => by cases h)
  have hcells : ∀ i c, i < len → c < n → ∃ v, w.cell? (a.add (i * n + c)) = some v ∧ VR (Ghost.all w) w ((E (q i)).getD c .undef) v := fun i c hi hcc => by
    obtain ⟨_, cs', h2, h3⟩ := hq i hi
    rw [hn] at h2
    obtain ⟨_, h4, h5⟩ := World.cells?_some h2
    have h6 := h5 c hcc
    rw [Deep.add_add, List.getElem?_eq_getElem (by omega)] at h6
    have h7 := h3.2 c (by rw [h.2.1]; exact hcc)
    rw [List.getD_eq_getElem?_getD (l := cs'), List.getElem?_eq_getElem (by omega)] at h7
    exact ⟨_, h6, h7⟩
  obtain ⟨v0, hv0, _⟩ := hcells 0 0 (by omega) (by omega)
  have hspot : a.spot = none := by
    have := World.cell?_spot hv0
    simpa [Addr.add] using this
  obtain ⟨b, off, sp⟩ := a
  simp only at hspot
  subst hspot
  have hlt : b < w.heap.size := by
    rw [add_plain] at hv0
    simp only [World.cell?] at hv0
    split at hv0
    · rename_i x hx; exact (Array.getElem?_eq_some_iff.1 hx).1
    · cases hv0
  have hget : ∀ i, i < len → (((List.range len).map q).map mk).getD i .undef = mk (q i) := fun i hi => by
    simp [List.getD_eq_getElem?_getD, hi]
  have := VR.lst (g := Ghost.all w) (w := w) false el (((List.range len).map q).map mk) b off cap hlt (fun h => by cases h) (by simpa using hl)
    (fun i hi => by rw [hget i (by simpa using hi)]; exact hfit _)
    (fun i c hi hcc => by
      obtain ⟨v, hv, _⟩ := hcells i c (by simpa using hi) (by omega)
      rw [add_plain] at hv
      rw [hsz, hv]; rfl)
    (fun i c hi hcc => by
      obtain ⟨v, hv, hr⟩ := hcells i c (by simpa using hi) (by omega)
      rw [add_plain] at hv
      rw [hget i (by simpa using hi), cellD, hsz, hv, hcell _ _ (by omega)]
      exact hr)
  simpa using this
def FieldsR (enc : TypeId × Value → H) (P : Program) (w : World) (N : Nat) (fs : List Field) (o : Nat) {α : Type} (E : α → List AV) (G : α → Prop) : Prop :=
  ∀ (cs : List Value) (fuel : Nat) (ys : List (DataW H × List MemPlace)), fuel ≤ N → (∀ (i : Nat) (f : Field), fs[i]? = some f → DataW.trod enc P w 0 (fun _ => true) true fuel f.type ((cs.drop f.offset).take (P.cellsOf f.type)) = ys[i]?) → ys.length = fs.length →
    ∃ a, G a ∧ VRL (Ghost.all w) w (E a) ((cs.drop o).take (E a).length)
theorem FieldsR.nil {N o : Nat} : FieldsR enc P w N [] o (fun _ : Unit => []) (fun _ => True) := fun cs fuel ys _ _ _ => ⟨(), trivial, by simpa using VRL.nil _ _⟩
theorem FieldsR.cons {N o n : Nat} {f : Field} {fs : List Field} {α β : Type} {E : α → List AV} {G : α → Prop} {E' : β → List AV} {G' : β → Prop} (h : Reads enc P w N f.type n E G) (ho : f.offset = o) (hk : FieldsR enc P w N fs (o + n) E' G') :
    FieldsR enc P w N (f :: fs) o (fun p : α × β => E p.1 ++ E' p.2) (fun p => G p.1 ∧ G' p.2) := by
  intro cs fuel ys hf hx hl
  cases ys with
  | nil => simp at hl
  | cons y ys =>
    have h0 := hx 0 f rfl
    rw [ho, h.1] at h0
    obtain ⟨a, g1, v1⟩ := h.2.2 fuel _ _ hf (by simpa using h0)
    obtain ⟨b, g2, v2⟩ := hk cs fuel ys hf (fun i f' hf' => by have := hx (i + 1) f' (by simpa using hf'); simpa using this) (by simpa using hl)
    refine ⟨(a, b), ⟨g1, g2⟩, ?_⟩
    have := v1.app v2
    have hlen := h.2.1 a
    have e : (cs.drop o).take n ++ (cs.drop (o + n)).take (E' b).length = (cs.drop o).take (E a ++ E' b).length := by
      rw [List.length_append, hlen, List.take_add, List.drop_drop]
    rwa [e] at this
theorem Reads.struct {N t n : Nat} {fs : Array Field} {α : Type} {E : α → List AV} {G : α → Prop} (ht : P.underlying t = some (.struct fs)) (hc : P.cellsOf t = n) (hE : ∀ a, (E a).length = n) (h : FieldsR enc P w N fs.toList 0 E G) : Reads enc P w (N + 1) t n E G := by
  refine ⟨hc, hE, fun fuel cs x hf hx => ?_⟩
  obtain ⟨xs, k, hk, _, hlen, hxl, hfs⟩ := DataW.trod_struct ht hx
  obtain ⟨a, g, v⟩ := h cs k xs (by omega) (fun i f hf => hfs i f (by simpa using hf)) (by simpa using hxl)
  refine ⟨a, g, ?_⟩
  rw [hE, List.drop_zero, List.take_of_length_le (by omega)] at v
  exact v
theorem Reads.deep {t n : Nat} {α : Type} {E : α → List AV} {G : α → Prop} (h : ∀ N, Reads enc P w N t n E G) {v : Value} {d : DataW H} {ps : List MemPlace} (hd : DataW.Trod enc P w 0 (fun _ => true) true t v d ps) : ∃ a, G a ∧ VRL (Ghost.all w) w (E a) v.cells.toList := by
  obtain ⟨f, hf⟩ := hd
  exact (h f).2.2 f _ _ (Nat.le_refl _) hf
end
end Go.AM
namespace Go.AM
open Go.ChangeShapes Go.WideShapes
section
variable {H : Type} {enc : TypeId × Value → H} {P : Program} {w : World}
def WOk (P : Program) (t : TypeId) (d : DataW H) : Prop := ∀ x ∈ d.weights P t, x ≤ reachBytes
theorem weights_slice {t e : TypeId} (ht : P.underlying t = some (.slice e)) (es sp : List (DataW H)) : (DataW.slice es sp).weights P t = (es.length + sp.length) * P.bytesOf e :: (DataW.weightsAll P e es ++ DataW.weightsAll P e sp) := by
  rw [DataW.weights, ht]
theorem weights_agg {t : TypeId} {fs : Array Field} (ht : P.underlying t = some (.struct fs)) (l : List (DataW H)) : (DataW.agg l).weights P t = DataW.weightsEach P (fs.toList.map (·.type)) l := by
  rw [DataW.weights, ht]
theorem mem_weightsAll {e : TypeId} {d : DataW H} {x : Nat} : ∀ {l : List (DataW H)}, d ∈ l → x ∈ d.weights P e → x ∈ DataW.weightsAll P e l
  | y :: r, h, hx => by
    rw [DataW.weightsAll]
    rcases List.mem_cons.1 h with rfl | h
    · exact List.mem_append_left _ hx
    · exact List.mem_append_right _ (mem_weightsAll h hx)
theorem mem_weightsEach {t : TypeId} {d : DataW H} {x : Nat} : ∀ {ts : List TypeId} {l : List (DataW H)} {i : Nat}, ts[i]? = some t → l[i]? = some d → x ∈ d.weights P t → x ∈ DataW.weightsEach P ts l
  | [], _, _, h, _, _ => by simp at h
  | _ :: _, [], _, _, h, _ => by simp at h
  | a :: r, y :: s, 0, h1, h2, hx => by
    simp only [List.getElem?_cons_zero, Option.some.injEq] at h1 h2
    subst h1; subst h2
    rw [DataW.weightsEach]; exact List.mem_append_left _ hx
  | a :: r, y :: s, i + 1, h1, h2, hx => by
    rw [DataW.weightsEach]; exact List.mem_append_right _ (mem_weightsEach (i := i) (by simpa using h1) (by simpa using h2) hx)
def WReads (enc : TypeId × Value → H) (P : Program) (w : World) (N : Nat) (t : TypeId) (n : Nat) {α : Type} (E : α → List AV) (G : α → Prop) : Prop :=
  P.cellsOf t = n ∧ (∀ a, (E a).length = n) ∧ ∀ fuel cs x, fuel ≤ N → DataW.trod enc P w 0 (fun _ => true) true fuel t cs = some x → WOk P t x.1 → ∃ a, G a ∧ VRL (Ghost.all w) w (E a) cs
theorem Reads.wide {N t n : Nat} {α : Type} {E : α → List AV} {G : α → Prop} (h : Reads enc P w N t n E G) : WReads enc P w N t n E G := ⟨h.1, h.2.1, fun f cs x hf hx _ => h.2.2 f cs x hf hx⟩
theorem WReads.map {N t n : Nat} {α β : Type} {E : α → List AV} {G : α → Prop} {E' : β → List AV} {G' : β → Prop} (h : WReads enc P w N t n E G) (f : α → β) (hE : ∀ a, E' (f a) = E a) (hl : ∀ b, (E' b).length = n) (hg : ∀ a, G a → G' (f a)) : WReads enc P w N t n E' G' :=
  ⟨h.1, hl, fun fu cs x hf hx hw => by obtain ⟨a, h1, h2⟩ := h.2.2 fu cs x hf hx hw; exact ⟨f a, hg a h1, by rw [hE]; exact h2⟩⟩
theorem WReads.slice {N t e n : Nat} {α : Type} [Inhabited α] {E : α → List AV} {G : α → Prop} (el : El) (mk : α → AV) (ht : P.underlying t = some (.slice e)) (hc : P.cellsOf t = 1) (h : WReads enc P w N e n E G) (hb : 0 < P.bytesOf e) (hn0 : 0 < n) (hsz : el.sz = n)
    (hfit : ∀ a, (mk a).fits el = true) (hcell : ∀ a c, c < n → (mk a).cell c = (E a).getD c .undef) : WReads enc P w (N + 1) t 1 (fun l : List α => [.lst false el (l.map mk)]) (fun l => l.length ≤ reachBytes ∧ ∀ a ∈ l, G a) := by
  refine ⟨hc, fun _ => rfl, fun fuel cs x hf hx hwt => ?_⟩
  rcases DataW.trod_slice ht hx with ⟨rfl, rfl⟩ | ⟨a, len, cap, elems, rest, k, hk, rfl, hx2, _, hl, _, hlen, hel, _, _⟩
  · exact ⟨[], ⟨Nat.zero_le _, by simp⟩, VRL.one (.lstE _ _ _ _ (fun h => by cases h))⟩
  rw [hx2] at hwt
  have hwt : ∀ x ∈ (DataW.slice (elems.map (·.1)) (rest.map (·.1))).weights P t, x ≤ reachBytes := hwt
  rw [weights_slice ht] at hwt
  have hlen2 : len ≤ reachBytes := by
    have h1 := hwt _ (List.mem_cons_self ..)
    simp only [List.length_map] at h1
    have h2 : elems.length + rest.length ≤ (elems.length + rest.length) * P.bytesOf e := Nat.le_mul_of_pos_right _ hb
    omega
  have each : ∀ i, i < len → ∃ q : α, G q ∧ ∃ cs', w.cells? 0 (a.add (i * P.cellsOf e)) (P.cellsOf e) = some cs' ∧ VRL (Ghost.all w) w (E q) cs' := fun i hi => by
    have h1 := hel i hi
    rw [List.getElem?_eq_getElem (by omega)] at h1
    obtain ⟨cs', h2, h3⟩ := Option.bind_eq_some_iff.1 h1
    obtain ⟨q, h4, h5⟩ := h.2.2 k cs' _ (by omega) h3 (fun x hx => hwt x (List.mem_cons_of_mem _ (List.mem_append_left _ (mem_weightsAll (List.mem_map.2 ⟨_, List.getElem_mem _, rfl⟩) hx))))
    exact ⟨q, h4, cs', h2, h5⟩
  obtain ⟨q, hq⟩ := Deep.choose_lt each
  refine ⟨(List.range len).map q, ⟨by simpa using hlen2, fun x hx => by obtain ⟨i, hi, rfl⟩ := List.mem_map.1 hx; exact (hq i (List.mem_range.1 hi)).1⟩, VRL.one ?_⟩
  have hn := h.1
  by_cases h0 : len = 0
  · subst h0; exact .lstE _ _ _ _ (fun h => by cases h)
  have hcells : ∀ i c, i < len → c < n → ∃ v, w.cell? (a.add (i * n + c)) = some v ∧ VR (Ghost.all w) w ((E (q i)).getD c .undef) v := fun i c hi hcc => by
    obtain ⟨_, cs', h2, h3⟩ := hq i hi
    rw [hn] at h2
    obtain ⟨_, h4, h5⟩ := World.cells?_some h2
    have h6 := h5 c hcc
    rw [Deep.add_add, List.getElem?_eq_getElem (by omega)] at h6
    have h7 := h3.2 c (by rw [h.2.1]; exact hcc)
    rw [List.getD_eq_getElem?_getD (l := cs'), List.getElem?_eq_getElem (by omega)] at h7
    exact ⟨_, h6, h7⟩
  obtain ⟨v0, hv0, _⟩ := hcells 0 0 (by omega) (by omega)
  have hspot : a.spot = none := by
    have := World.cell?_spot hv0
    simpa [Addr.add] using this
  obtain ⟨b, off, sp⟩ := a
  simp only at hspot
  subst hspot
  have hlt : b < w.heap.size := by
    rw [add_plain] at hv0
    simp only [World.cell?] at hv0
    split at hv0
    · rename_i x hx; exact (Array.getElem?_eq_some_iff.1 hx).1
    · cases hv0
  have hget : ∀ i, i < len → (((List.range len).map q).map mk).getD i .undef = mk (q i) := fun i hi => by
    simp [List.getD_eq_getElem?_getD, hi]
  have := VR.lst (g := Ghost.all w) (w := w) false el (((List.range len).map q).map mk) b off cap hlt (fun h => by cases h) (by simpa using hl)
    (fun i hi => by rw [hget i (by simpa using hi)]; exact hfit _)
    (fun i c hi hcc => by
      obtain ⟨v, hv, _⟩ := hcells i c (by simpa using hi) (by omega)
      rw [add_plain] at hv
      rw [hsz, hv]; rfl)
    (fun i c hi hcc => by
      obtain ⟨v, hv, hr⟩ := hcells i c (by simpa using hi) (by omega)
      rw [add_plain] at hv
      rw [hget i (by simpa using hi), cellD, hsz, hv, hcell _ _ (by omega)]
      exact hr)
  simpa using this
def FieldsW (enc : TypeId × Value → H) (P : Program) (w : World) (N : Nat) (fs : List Field) (o : Nat) {α : Type} (E : α → List AV) (G : α → Prop) : Prop :=
  ∀ (cs : List Value) (fuel : Nat) (ys : List (DataW H × List MemPlace)), fuel ≤ N → (∀ (i : Nat) (f : Field), fs[i]? = some f → DataW.trod enc P w 0 (fun _ => true) true fuel f.type ((cs.drop f.offset).take (P.cellsOf f.type)) = ys[i]?) → ys.length = fs.length → (∀ (i : Nat) (f : Field) (y : DataW H × List MemPlace), fs[i]? = some f → ys[i]? = some y → WOk P f.type y.1) →
    ∃ a, G a ∧ VRL (Ghost.all w) w (E a) ((cs.drop o).take (E a).length)
theorem FieldsW.nil {N o : Nat} : FieldsW enc P w N [] o (fun _ : Unit => []) (fun _ => True) := fun cs fuel ys _ _ _ _ => ⟨(), trivial, by simpa using VRL.nil _ _⟩
theorem FieldsW.cons {N o n : Nat} {f : Field} {fs : List Field} {α β : Type} {E : α → List AV} {G : α → Prop} {E' : β → List AV} {G' : β → Prop} (h : WReads enc P w N f.type n E G) (ho : f.offset = o) (hk : FieldsW enc P w N fs (o + n) E' G') :
    FieldsW enc P w N (f :: fs) o (fun p : α × β => E p.1 ++ E' p.2) (fun p => G p.1 ∧ G' p.2) := by
  intro cs fuel ys hf hx hl hwt
  cases ys with
  | nil => simp at hl
  | cons y ys =>
    have h0 := hx 0 f rfl
    rw [ho, h.1] at h0
    obtain ⟨a, g1, v1⟩ := h.2.2 fuel _ _ hf (by simpa using h0) (hwt 0 f y rfl rfl)
    obtain ⟨b, g2, v2⟩ := hk cs fuel ys hf (fun i f' hf' => by have := hx (i + 1) f' (by simpa using hf'); simpa using this) (by simpa using hl) (fun i f' y' h1 h2 => hwt (i + 1) f' y' (by simpa using h1) (by simpa using h2))
    refine ⟨(a, b), ⟨g1, g2⟩, ?_⟩
    have := v1.app v2
    have hlen := h.2.1 a
    have e : (cs.drop o).take n ++ (cs.drop (o + n)).take (E' b).length = (cs.drop o).take (E a ++ E' b).length := by
      rw [List.length_append, hlen, List.take_add, List.drop_drop]
    rwa [e] at this
theorem WReads.struct {N t n : Nat} {fs : Array Field} {α : Type} {E : α → List AV} {G : α → Prop} (ht : P.underlying t = some (.struct fs)) (hc : P.cellsOf t = n) (hE : ∀ a, (E a).length = n) (h : FieldsW enc P w N fs.toList 0 E G) : WReads enc P w (N + 1) t n E G := by
  refine ⟨hc, hE, fun fuel cs x hf hx hwt => ?_⟩
  obtain ⟨xs, k, hk, hx2, hlen, hxl, hfs⟩ := DataW.trod_struct ht hx
  obtain ⟨a, g, v⟩ := h cs k xs (by omega) (fun i f hf => hfs i f (by simpa using hf)) (by simpa using hxl) (fun i f y h1 h2 x hx => hwt x (by rw [hx2]; show x ∈ (DataW.agg (xs.map (·.1))).weights P t; rw [weights_agg ht]; exact mem_weightsEach (i := i) (by rw [List.getElem?_map, h1]; rfl) (by rw [List.getElem?_map, h2]; rfl) hx))
  refine ⟨a, g, ?_⟩
  rw [hE, List.drop_zero, List.take_of_length_le (by omega)] at v
  exact v
theorem WReads.deep {t n : Nat} {α : Type} {E : α → List AV} {G : α → Prop} (h : ∀ N, WReads enc P w N t n E G) {v : Value} {d : DataW H} {ps : List MemPlace} (hd : DataW.Trod enc P w 0 (fun _ => true) true t v d ps) (hw : (d.weights P t).all (· ≤ reachBytes) = true) : ∃ a, G a ∧ VRL (Ghost.all w) w (E a) v.cells.toList := by
  obtain ⟨f, hf⟩ := hd
  exact (h f).2.2 f _ _ (Nat.le_refl _) hf (fun x hx => by simpa using List.all_eq_true.1 hw x hx)
end
end Go.AM
namespace Go.Proofs.YtophdhenjdlbeaaGreatDoor
open Go.AM
set_option maxRecDepth 8000
def rngV (v : Val) : Prop := -9223372036854775808 ≤ v.n ∧ v.n ≤ 9223372036854775807
section
variable {H : Type} {enc : TypeId × Value → H} {w : World}
abbrev i64R (n : Int) : Prop := -9223372036854775808 ≤ n ∧ n ≤ 9223372036854775807
abbrev RD (enc : TypeId × Value → H) (w : World) (N : Nat) (t : TypeId) (n : Nat) {α : Type} (E : α → List AV) (G : α → Prop) : Prop := Reads enc Tryz.prog w N t n E G
theorem rd_int (N : Nat) {t : TypeId} (ht : Tryz.prog.underlying t = some (.int .i64)) (hc : Tryz.prog.cellsOf t = 1) : RD enc w N t 1 (fun n : Int => [I n]) i64R := Reads.int ht hc
theorem rd_str (N : Nat) : RD enc w N 9 1 (fun s : Str => [.str s]) (fun _ => True) := Reads.str Tryz.underlying9 (by kernel_rfl)
theorem rd_kind (N : Nat) : RD enc w N 72 1 (fun n : Int => [I n]) i64R := rd_int N Tryz.underlying72 (by kernel_rfl)
theorem rd_num (N : Nat) : RD enc w N 3 1 (fun n : Int => [I n]) i64R := rd_int N Tryz.underlying3 (by kernel_rfl)
def cVal (v : Val) : List AV := [I v.kind, I v.n, .str v.s]
theorem rd_val (N : Nat) : RD enc w (N + 1) 83 3 cVal rngV := by
  have h := Reads.struct (enc := enc) (w := w) (N := N) (n := 3) Tryz.underlying83 (by kernel_rfl) (fun _ => rfl) (.cons (rd_kind N) rfl (.cons (rd_num N) rfl (.cons (rd_str N) rfl .nil)))
  exact h.map (fun p => ⟨p.1, p.2.1, p.2.2.1⟩) (fun _ => rfl) (fun _ => rfl) (fun p h => h.2.1)
abbrev WD (enc : TypeId × Value → H) (w : World) (N : Nat) (t : TypeId) (n : Nat) {α : Type} (E : α → List AV) (G : α → Prop) : Prop := WReads enc Tryz.prog w N t n E G
theorem wid {α : Type} {N t n : Nat} {E : α → List AV} {G G' : α → Prop} (h : WD enc w N t n E G) (hg : ∀ a, G a → G' a) : WD enc w N t n E G' := h.map (fun a => a) (fun _ => rfl) h.2.1 hg
abbrev big (n : Nat) : Prop := n ≤ 2 ^ 60
theorem big_of {n : Nat} (h : n ≤ reachBytes) : big n := Nat.le_trans h (by decide)
theorem wd_vals (N : Nat) : WD enc w (N + 2) 41 1 (fun l : List Val => [eVals l]) (fun l => big l.length) :=
  wid (WReads.slice EV eVal Tryz.underlying41 (by kernel_rfl) (rd_val N).wide (Nat.le_of_ble_eq_true (by kernel_rfl)) (by decide) rfl (fun _ => rfl) (fun _ _ _ => rfl)) (fun _ h => big_of h.1)
def cCol (c : Col) : List AV := [.str c.name, I c.kind, eVals c.order]
theorem wd_col (N : Nat) : WD enc w (N + 3) 74 3 cCol (fun c => big c.order.length) := by
  have h := WReads.struct (enc := enc) (w := w) (N := N + 2) (n := 3) Tryz.underlying74 (by kernel_rfl) (fun _ => rfl) (.cons (rd_str _).wide rfl (.cons (rd_kind _).wide rfl (.cons (wd_vals N) rfl .nil)))
  exact h.map (fun p => ⟨p.1, p.2.1, p.2.2.1⟩) (fun _ => rfl) (fun _ => rfl) (fun p h => h.2.2.1)
theorem wd_cols (N : Nat) : WD enc w (N + 4) 23 1 (fun l : List Col => [eCols l]) smCols :=
  wid (WReads.slice EC eCol Tryz.underlying23 (by kernel_rfl) (wd_col N) (Nat.le_of_ble_eq_true (by kernel_rfl)) (by decide) rfl (fun _ => rfl) (fun _ _ _ => rfl)) (fun _ h => ⟨big_of h.1, h.2⟩)
theorem wd_strs (N : Nat) : WD enc w (N + 1) 77 1 (fun l : List Str => [eStrs l]) (fun l => big l.length) := by
  refine wid (WReads.slice E1 eStr Tryz.underlying77 (by kernel_rfl) (rd_str N).wide (Nat.le_of_ble_eq_true (by kernel_rfl)) (by decide) rfl (fun _ => rfl) ?_) (fun _ h => big_of h.1)
  intro s c hc
  have h0 : c = 0 := by omega
  subst h0; rfl
def cRule (r : Rule) : List AV := [eStrs r.cells, eStrs r.outs]
theorem wd_rule (N : Nat) : WD enc w (N + 2) 79 2 cRule smRule := by
  have h := WReads.struct (enc := enc) (w := w) (N := N + 1) (n := 2) Tryz.underlying79 (by kernel_rfl) (fun _ => rfl) (.cons (wd_strs N) rfl (.cons (wd_strs N) rfl .nil))
  exact h.map (fun p => ⟨p.1, p.2.1⟩) (fun _ => rfl) (fun _ => rfl) (fun p h => ⟨h.1, h.2.1⟩)
theorem wd_rules (N : Nat) : WD enc w (N + 3) 26 1 (fun l : List Rule => [eRules l]) (fun l => big l.length ∧ ∀ r ∈ l, smRule r) :=
  wid (WReads.slice ER eRule Tryz.underlying26 (by kernel_rfl) (wd_rule N) (Nat.le_of_ble_eq_true (by kernel_rfl)) (by decide) rfl (fun _ => rfl) (fun _ _ _ => rfl)) (fun _ h => ⟨big_of h.1, h.2⟩)
theorem wd_table (N : Nat) : WD enc w (N + 5) 28 6 cTable smTab := by
  have h := WReads.struct (enc := enc) (w := w) (N := N + 4) (n := 6) Tryz.underlying28 (by kernel_rfl) (fun _ => rfl) (.cons (rd_str _).wide rfl (.cons (wd_cols N) rfl (.cons (wd_cols N) rfl (.cons (rd_int _ Tryz.underlying24 (by kernel_rfl)).wide rfl (.cons (rd_int _ Tryz.underlying25 (by kernel_rfl)).wide rfl (.cons (wd_rules (N + 1)) rfl .nil))))))
  exact h.map (fun p => ⟨p.1, p.2.1, p.2.2.1, p.2.2.2.1, p.2.2.2.2.1, p.2.2.2.2.2.1⟩) (fun _ => rfl) (fun _ => rfl) (fun p h => ⟨h.2.1, h.2.2.1, h.2.2.2.2.2.1.1, h.2.2.2.2.2.1.2⟩)
def cNamed (n : Named) : List AV := [.str n.name, I n.n]
theorem wd_named (N : Nat) : WD enc w (N + 1) 56 2 cNamed (fun _ => True) := by
  have h := WReads.struct (enc := enc) (w := w) (N := N) (n := 2) Tryz.underlying56 (by kernel_rfl) (fun _ => rfl) (.cons (rd_str _).wide rfl (.cons (rd_num _).wide rfl .nil))
  exact h.map (fun p => ⟨p.1, p.2.1⟩) (fun _ => rfl) (fun _ => rfl) (fun p h => trivial)
theorem wd_nameds (N : Nat) : WD enc w (N + 2) 29 1 (fun l : List Named => [eNameds l]) (fun l => big l.length) :=
  wid (WReads.slice EN eNamed Tryz.underlying29 (by kernel_rfl) (wd_named N) (Nat.le_of_ble_eq_true (by kernel_rfl)) (by decide) rfl (fun _ => rfl) (fun _ _ _ => rfl)) (fun _ h => big_of h.1)
theorem wd_ints (N : Nat) : WD enc w (N + 1) 47 1 (fun l : List Int => [eInts l]) (fun l => big l.length) := by
  refine wid (WReads.slice E1 eInt Tryz.underlying47 (by kernel_rfl) (rd_num N).wide (Nat.le_of_ble_eq_true (by kernel_rfl)) (by decide) rfl (fun _ => rfl) ?_) (fun _ h => big_of h.1)
  intro s c hc
  have h0 : c = 0 := by omega
  subst h0; rfl
theorem wd_rows (N : Nat) : WD enc w (N + 3) 48 1 (fun l : List (List Val) => [eRows l]) (fun l => big l.length ∧ ∀ r ∈ l, big r.length) := by
  refine wid (WReads.slice E1 eVals Tryz.underlying48 (by kernel_rfl) (wd_vals N) (Nat.le_of_ble_eq_true (by kernel_rfl)) (by decide) rfl (fun _ => rfl) ?_) (fun _ h => ⟨big_of h.1, h.2⟩)
  intro s c hc
  have h0 : c = 0 := by omega
  subst h0; rfl
theorem wd_out (N : Nat) : WD enc w (N + 4) 50 3 cOut (fun e => e.table = [] ∧ e.ver = 0 ∧ e.input = [] ∧ big e.rules.length ∧ big e.rows.length ∧ ∀ r ∈ e.rows, big r.length) := by
  have h := WReads.struct (enc := enc) (w := w) (N := N + 3) (n := 3) Tryz.underlying50 (by kernel_rfl) (fun _ => rfl) (.cons (rd_int _ Tryz.underlying22 (by kernel_rfl)).wide rfl (.cons (wd_ints (N + 2)) rfl (.cons (wd_rows N) rfl .nil)))
  exact h.map (fun p => ⟨[], 0, [], p.1, p.2.1, p.2.2.1⟩) (fun _ => rfl) (fun _ => rfl) (fun p h => ⟨rfl, rfl, rfl, h.2.1, h.2.2.1.1, h.2.2.1.2⟩)
theorem wd_ent (N : Nat) : WD enc w (N + 5) 52 6 cEnt smE := by
  have h := WReads.struct (enc := enc) (w := w) (N := N + 4) (n := 6) Tryz.underlying52 (by kernel_rfl) (fun _ => rfl) (.cons (rd_str _).wide rfl (.cons (rd_num _).wide rfl (.cons (wd_vals (N + 2)) rfl (.cons (wd_out N) rfl .nil))))
  exact h.map (fun p => ⟨p.1, p.2.1, p.2.2.1, p.2.2.2.1.err, p.2.2.2.1.rules, p.2.2.2.1.rows⟩) (fun _ => rfl) (fun _ => rfl) (fun p h => ⟨h.2.2.1, h.2.2.2.1.2.2.2.1, h.2.2.2.1.2.2.2.2.1, h.2.2.2.1.2.2.2.2.2⟩)
theorem wd_ents (N : Nat) : WD enc w (N + 6) 30 1 (fun l : List Ent => [eEnts l]) smEs :=
  wid (WReads.slice EY eEnt Tryz.underlying30 (by kernel_rfl) (wd_ent N) (Nat.le_of_ble_eq_true (by kernel_rfl)) (by decide) rfl (fun _ => rfl) (fun _ _ _ => rfl)) (fun _ h => ⟨big_of h.1, h.2⟩)
def cMark (m : Int × Int × Str × Str) : List AV := [I m.1, I m.2.1, .str m.2.2.1, .str m.2.2.2]
theorem wd_mark (N : Nat) : WD enc w (N + 1) 32 4 cMark (fun _ => True) := by
  have h := WReads.struct (enc := enc) (w := w) (N := N) (n := 4) Tryz.underlying32 (by kernel_rfl) (fun _ => rfl) (.cons (rd_num _).wide rfl (.cons (rd_num _).wide rfl (.cons (rd_str _).wide rfl (.cons (rd_str _).wide rfl .nil))))
  exact h.map (fun p => (p.1, p.2.1, p.2.2.1, p.2.2.2.1)) (fun _ => rfl) (fun _ => rfl) (fun p h => trivial)
theorem wd_rep (N : Nat) : WD enc w (N + 7) 34 14 cRep smR := by
  have h := WReads.struct (enc := enc) (w := w) (N := N + 6) (n := 14) Tryz.underlying34 (by kernel_rfl) (fun _ => rfl) (.cons (rd_int _ Tryz.underlying22 (by kernel_rfl)).wide rfl (.cons (rd_num _).wide rfl (.cons (wd_table (N + 1)) rfl (.cons (wd_nameds (N + 4)) rfl (.cons (wd_ents N) rfl (.cons (wd_mark (N + 5)) rfl .nil))))))
  exact h.map (fun p => ⟨p.1, p.2.1, p.2.2.1, p.2.2.2.1, p.2.2.2.2.1, p.2.2.2.2.2.1.1, p.2.2.2.2.2.1.2.1, p.2.2.2.2.2.1.2.2.1, p.2.2.2.2.2.1.2.2.2⟩) (fun _ => rfl) (fun _ => rfl) (fun p h => ⟨h.2.2.1, h.2.2.2.1, h.2.2.2.2.1⟩)
theorem rep_of {v : Value} {d : DataW H} {ps : List MemPlace} {base : Nat} (hval : Value.okWide Tryz.prog w .any base 34 v) (hd : DataW.Trod enc Tryz.prog w 0 (fun _ => true) true 34 v d ps) (hw : (d.weights Tryz.prog 34).all (· ≤ reachBytes) = true) : ∃ a : Rep, smR a ∧ VR (Ghost.all w) w (eRep a) v := by
  obtain ⟨cs, rfl, _⟩ := Go.WideShapes.okWide_struct Tryz.underlying34 hval
  obtain ⟨t, h1, h2⟩ := WReads.deep (fun N => by
    have := wd_rep (enc := enc) (w := w) N
    exact ⟨this.1, this.2.1, fun f cs x hf hx => this.2.2 f cs x (by omega) hx⟩) hd hw
  exact ⟨t, h1, VRL.agg h2 rfl⟩
end
def vRep : Value := .agg #[.int .i64 0, .int .i64 0, .string ByteArray.empty, .slice none 0 0, .slice none 0 0, .int .i64 0, .int .i64 0, .slice none 0 0, .slice none 0 0, .slice none 0 0, .int .i64 0, .int .i64 0, .string ByteArray.empty, .string ByteArray.empty]
end Go.Proofs.YtophdhenjdlbeaaGreatDoor
namespace Go.Proofs.YtophdhenjdlbeaaGreatDoor
open Go.AM Go.ChangeShapes Go.WideShapes Go.ChangeAt Go.RowKit
theorem own : ownKnob Tryz.prog.godebug = none := by kernel_rfl
theorem kids : Kids Tryz.prog (· < Tryz.prog.types.size) := kids_rows (by kernel_rfl) (by kernel_rfl)
theorem full : ∀ t e, t < Tryz.prog.types.size → Tryz.prog.underlying t = some (.slice e) → 0 < Tryz.prog.cellsOf e := slices_full_of Tryz.prog (by kernel_rfl)
def laidL : List (String × DataW Unit) := Rows.deskSameRow.laid
theorem pow_fin {W : World} {g : Nat} {t : TypeId} {cs : Array Value} {fuel : Nat} {p : List MemPlace} (hg : Tryz.prog.globalNamed "internal/strconv.uint64pow10" = some g) (ht : (Tryz.prog.globals[g]?).map (·.type) = some t) (hv : W.var? Tryz.prog "internal/strconv.uint64pow10" = some cs)
    (hd : DataW.trod (fun _ => ()) Tryz.prog W 0 (fun _ => true) false fuel t cs.toList = some (Rows.laid_internal_strconv_uint64pow10, p)) : GlobR (Ghost.all W) W := by
  have e : Rows.laid_internal_strconv_uint64pow10 = Lib.tabData (H := Unit) .u64 Lib.pow10Tab := by kernel_rfl
  rw [e] at hd
  have hg1 : g = 1 := Option.some.inj (hg.symm.trans globNamed)
  subst hg1
  have hgt : (Tryz.prog.globals[1]?).map (·.type) = some t := ht
  have ht2 : (Tryz.prog.globals[1]?).map (·.type) = some 323 := by kernel_rfl
  have e3 : t = 323 := Option.some.inj (hgt.symm.trans ht2)
  subst e3
  have hcs := Lib.cells_of_tab Tryz.underlying323 Tryz.underlying172 (by kernel_rfl) (by kernel_rfl) hd
  have hok : GlobOk W := by
    show W.var? Tryz.prog "internal/strconv.uint64pow10" = some (Lib.pow10Tab.map fun z => Value.int .u64 z).toArray
    rw [hv, ← hcs]
  refine ⟨fun b hb => ?_, hok⟩
  simp only [Globs, List.mem_cons, List.not_mem_nil, or_false] at hb
  subst hb
  have hc := Lib.TabIs.cell hok hg 0 (by decide)
  show 1 < W.heap.size
  simp only [World.cell?] at hc
  split at hc
  · rename_i x hx; exact (Array.getElem?_eq_some_iff.1 hx).1
  · cases hc
theorem pow_of_laid {W : World} (h : laidMetH Tryz.prog laidL W) : GlobR (Ghost.all W) W := by
  have h : laidMet Tryz.prog laidL W := h
  first
    | (obtain ⟨ps, ⟨g, t, cs, fuel, p, q, hg, ht, hv, hd, _⟩, _⟩ := h; exact pow_fin hg ht hv hd)
    | (obtain ⟨ps, ⟨_, _, _, _, _, q, _, _, _, _, ⟨g, t, cs, fuel, p, q2, hg, ht, hv, hd, _⟩, _⟩, _⟩ := h; exact pow_fin hg ht hv hd)
    | (obtain ⟨ps, ⟨_, _, _, _, _, q, _, _, _, _, ⟨_, _, _, _, _, q2, _, _, _, _, ⟨g, t, cs, fuel, p, q3, hg, ht, hv, hd, _⟩, _⟩, _⟩, _⟩ := h; exact pow_fin hg ht hv hd)
def litOf : DataW Unit → Value
  | .lit (.int k n) => .int k n
  | _ => Go.undef
def litsOf : DataW Unit → Array Value
  | .agg l => (l.map litOf).toArray
  | _ => #[]
def laidObj (d : DataW Unit) : Obj → Obj
  | .cells _ t fz => .cells (litsOf d) t fz
  | o => o
noncomputable def laidWorld (os : Os) : World :=
  { World.holding Tryz.prog os ⟨#[], #[], []⟩ with heap := (((World.holding Tryz.prog os ⟨#[], #[], []⟩).heap.modify 2 (laidObj Rows.laid_math_bits_deBruijn32tab)).modify 3 (laidObj Rows.laid_math_bits_deBruijn64tab)).modify 1 (laidObj Rows.laid_internal_strconv_uint64pow10) }
theorem laid_met (os : Os) (args : Array Value) : laidMetH Tryz.prog laidL ((laidWorld os).forCall (fun _ _ => 0) ⟨#[], args, []⟩).memory :=
  (laidMet_of_run' 8 (by kernel_rfl) (by kernel_rfl) : laidMet Tryz.prog laidL ((laidWorld os).forCall (fun _ _ => 0) ⟨#[], args, []⟩).memory)
set_option maxRecDepth 100000 in
theorem stepL {H : Type} {enc : TypeId × Value → H} {os : Os} {f : FuncId} {fn : Func} {s : ChangeSpec} (args0 : Array Value)
    (started : os.Started) (noInit : Tryz.checked.prog.inits.idxOf? f = none) (hfn : Tryz.checked.prog.funcs[f]? = some fn)
    (hv : ((laidWorld os).forCall (fun _ _ => 0) ⟨#[], args0, []⟩).variablesB Tryz.checked.prog = true)
    (hr : (((laidWorld os).forCall (fun _ _ => 0) ⟨#[], args0, []⟩).heap.toList.drop Tryz.checked.prog.globals.size).take ((begin Tryz.checked.prog (fun _ _ => 0) default).world.heap.size - Tryz.checked.prog.globals.size) =
      (begin Tryz.checked.prog (fun _ _ => 0) default).world.heap.toList.drop Tryz.checked.prog.globals.size)
    (hok : Input.okWideB Tryz.checked.prog ((laidWorld os).forCall (fun _ _ => 0) ⟨#[], args0, []⟩) f ⟨#[], args0, []⟩ = true)
    (hpre : s.preB enc Tryz.checked.prog fn [] false ((laidWorld os).forCall (fun _ _ => 0) ⟨#[], args0, []⟩).memory args0 8 = true)
    (hsz : s.sizedB enc Tryz.checked.prog fn false ((laidWorld os).forCall (fun _ _ => 0) ⟨#[], args0, []⟩).memory args0 8 = true)
    (contract : ∀ (W : World) (base : Nat) (args : Array Value) (ds gs : List (DataW H)) (before : List MemPlace),
      (∀ (j : Nat) t v, fn.params[j]? = some t → args[j]? = some v → Value.okWide Tryz.prog W .any base t v) →
      DataW.Whole enc Tryz.prog fn.params.toList s.vars false W args.toList ds gs before → (DataW.weightsEach Tryz.prog (fn.params.toList ++ s.plain.varTypes Tryz.prog) (ds ++ gs)).all (· ≤ reachBytes) = true → GlobR (Ghost.all W) W →
      Calls Tryz.prog f args W fun e W' => ∃ v, e = .returned v ∧ s.post enc Tryz.prog fn false true false false W args v W') :
    ReturnsInHanded {} Tryz.checked os f .any (fun w args => (s.pre enc Tryz.checked.prog fn [] false w args ∧ laidMetH Tryz.prog laidL w) ∧ sizedMet enc Tryz.checked.prog fn (OpenSpec.ofChange s) false w args) (s.post enc Tryz.checked.prog fn false true false false) := by
  refine returnsInHanded_of_change_and (C := Tryz.checked) (X := fun w _ => laidMetH Tryz.prog laidL w) (fun _ _ _ hh h => h.of_heap hh) own started noInit hfn
    (ChangeSpec.witness_at (enc := enc) (C := Tryz.checked) (os := os) (X := fun w _ => laidMetH Tryz.prog laidL w) false (laidWorld os) args0 8 rfl hv hr hok hpre hsz (laid_met os _)) ?_
  intro W base args ds gs before h1 h2 _ h3 hL _
  exact contract W base args ds gs before h1 h2 h3 (pow_of_laid hL)
theorem args2 {a b : AV} {x y : Value} {g : Ghost} {w : World} (h1 : VR g w a x) (h2 : VR g w b y) : ∀ i, i < [a, b].length → VR g w ([a, b].getD i .undef) (#[x, y].getD i Go.undef) := by
  intro i hi
  match i, hi with
  | 0, _ => exact h1
  | 1, _ => exact h2
theorem goes_gen (P : Program) (h : P.funcs.any Func.goes = false) (f : FuncId) : P.goes f = false := by
  unfold Program.goes
  rw [h, Bool.and_false, Bool.or_false, List.any_eq_false]
  intro g _
  cases hg : P.funcs[g]? with
  | none => simp
  | some fn =>
    rw [Array.any_eq_false] at h
    obtain ⟨hl, rfl⟩ := Array.getElem?_eq_some_iff.1 hg
    simpa using h g hl
theorem goesBy_gen (P : Program) (h : P.funcs.any Func.goes = false) (c : OpenClaim) (hs : c.start = .entering) : false = c.goesBy P := by
  unfold OpenClaim.goesBy Program.goesAt Program.goesFrom
  rw [hs]
  cases P.funcNamed c.func with
  | none => rfl
  | some f => show false = (P.goes f || false); rw [goes_gen P h]; rfl
theorem goes_none : Tryz.pinned.checked.prog.funcs.any Func.goes = false := by kernel_rfl
theorem fx_laid : laidOutB Tryz.checked.prog = true := by kernel_rfl
theorem fx_maps : mapsRowed Tryz.checked.prog = true := by kernel_rfl
theorem fx_stops : Tryz.checked.prog.stopsHeard = true := by kernel_rfl
theorem fx_enter : Tryz.checked.prog.mayEnter = true := by kernel_rfl
end Go.Proofs.YtophdhenjdlbeaaGreatDoor
