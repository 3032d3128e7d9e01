/- Part of a proof: see Root. -/
import Derived.Test.YtnpkjelldjnepaaGreatDoorW22
import Derived.WalkKit
import Derived.ProofKit
import Derived.OpenShut
import Derived.ReadAgain
import Derived.Deep.SlicePairs
import Derived.Test.YtnpkjelldjnepaaGreatDoorRows
import Derived.SevenTiedAt
import Derived.LaidLaws
import Derived.LaidHandle
import Derived.Lib.LaidTab
set_option linter.unusedSectionVars false
set_option linter.unnecessarySimpa false
set_option linter.unusedSimpArgs false
set_option linter.unusedVariables false
namespace Go.Proofs.YtnpkjelldjnepaaGreatDoor
open Go.AM
set_option maxRecDepth 4000
@[go_sem] theorem partT_ga (sz off n : Nat) (cs : List AV) (K : AV → Prop) (h : ¬(off = 0 ∧ n = sz)) : partT false ⟨true, sz⟩ (.agg cs) off true n (.mk : Tg K) = req (off + n ≤ sz) (.mk : Tg (K (.agg ((cs.drop off).take n)))) := by
  refine partT_g _ _ _ _ _ ?_
  rw [Bool.eq_false_iff]; intro hh; simp at hh; exact h hh
structure Cmd where
  kind : Int
  table : Table
  name : Str
  ver : Int
  row : List Val
  frm : Int
  cnt : Int
deriving Inhabited
abbrev EM : El := ⟨true, 12⟩
def cCmd (c : Cmd) : List AV := [I c.kind, .str c.table.name, eCols c.table.ins, eCols c.table.outs, I c.table.policy, I c.table.agg, eRules c.table.rules, .str c.name, I c.ver, eVals c.row, I c.frm, I c.cnt]
def eCmd (c : Cmd) : AV := .agg (cCmd c)
attribute [go_sem] cCmd eCmd
theorem pur_eCmd (c : Cmd) : (eCmd c).pur = true := by simp [eCmd, cCmd, AV.pur, AV.purL]
def fewC (c : Cmd) : Bool := smallT c.table && decide (c.name.length ≤ 300) && (decide (c.row.length ≤ 12) && c.row.all valB)
theorem law27_Few (a : Cmd) : CallF Tryz.prog n_law27_Cmds_Few [.lst true EM [eCmd a]] (.bool (fewC a)) := by
  have c1 := law18_Small a.table
  have c2 := law16_Few a.row
  obtain ⟨E, hE⟩ : ∃ E, fewC a = E := ⟨_, rfl⟩
  rw [hE]
  unfold fewC at hE
  generalize smallT a.table = x at *
  generalize (decide (a.row.length ≤ 12) && a.row.all valB) = y at *
  simp only [eTable, cTable, eCols, eRules, eVals] at c1 c2
  refine CallF.of_nil (of_law27_Cmds_Few (by simp) ?_) (by simp [AV.purL, AV.pur, pur_eCmd])
  simp only [eCmd, cCmd, eCols, eRules, eVals]
  unfold b_law27_Cmds_Few WpR
  intro Q hQr hQn hQp
  repeat' first | refine go_ ?_ | refine br_ (fun hw => ?_) (fun hw => ?_) <;> try omega | fail
  with_reducible refine loop_i [2, 3, 7, 8, 9, 10, 11, 12, 13, 14, 15, 16, 17, 18, 19, 20, 21, 22, 23, 24, 25, 26, 27, 28, 29, 30, 31, 32, 33, 34, 35, 36, 37] (fun q : Nat => [(3, I q)]) (fun _ => []) (fun q => q ≤ 1 ∧ (q = 1 → E = true)) (fun q => 1 - q) (0) ?_ ?_ ?_ ?_
  · simp
  · rfl
  · exact at_
  rintro i r ⟨g1, g2⟩
  by_cases hi : i < 1
  · obtain rfl : i = 0 := by omega
    repeat' first | refine go_ ?_ | refine cf_ c1 ?_ | refine cf_ c2 ?_ | refine br_ (fun hw => ?_) (fun hw => ?_) <;> try omega | fail
    all_goals first
      | exact ab_
      | (refine leafE ?_ rfl; rw [← hE, decide_eq_false (by omega)]; simp; done)
      | (refine leafE ?_ rfl; rw [← hE]; simp [*]; done)
      | (refine ⟨1, ?_, ?_, by first | rfl | (simp [go_sem]; done), ou_, at_⟩ <;> (try dsimp only)
         · exact ⟨by omega, fun _ => by rw [← hE, decide_eq_true (by omega)]; simp [*]⟩
         · omega)
  · repeat' first | refine go_ ?_ | refine br_ (fun hw => ?_) (fun hw => ?_) <;> try omega | fail
    exact leafE (by rw [g2 (by omega)]) rfl
def rNil : AV := .agg [I 1, I 0, .str [], .nils, .nils, I 0, I 0, .nils, .nils, .nils, I 0, I 0, .str [], .str []]
abbrev EP : El := ⟨true, 14⟩
section
variable (c : Cmd)
theorem nil_Do : CallF Tryz.prog n_desk_Do [.nili, eCmd c] rNil := CallF.of_run 9 (by simp [AV.purL, AV.pur, pur_eCmd]) rfl (by kernel_rfl)
theorem nil_Play : CallF Tryz.prog n_desk_Play [.nili, .lst true EM [eCmd c, eCmd c]] (.lst false EP [rNil, rNil]) := CallF.of_runZ 9 (by simp [AV.purL, AV.pur, pur_eCmd]) rfl (by kernel_rfl)
theorem nil_Same : CallF Tryz.prog n_ref28_Same [rNil, rNil] (.bool true) := CallF.of_run 30 rfl rfl (by kernel_rfl)
end
set_option maxHeartbeats 8000000 in
theorem law28_DeskNil (c : Cmd) : CallF Tryz.prog n_law28_DeskNil [eCmd c] (.bool true) := by
  have c0 := law27_Few c
  have cL := law28_lives
  generalize fewC c = f at c0
  have p1 := nil_Do c
  have p2 := nil_Play c
  have p3 := nil_Same
  simp only [eCmd, cCmd, eCols, eRules, eVals, rNil] at *
  refine CallF.of_nil (of_law28_DeskNil (by simp) ?_) (by simp [AV.purL, AV.pur])
  unfold b_law28_DeskNil WpR
  intro Q hQr hQn hQp
  cases f
  · repeat' first | refine go_ ?_ | refine cf_ c0 ?_ | refine cf_ cL ?_ | refine br_ (fun hw => ?_) (fun hw => ?_) <;> try omega | fail
    all_goals first | exact ab_ | exact leafE rfl rfl
  · have e0 : ∀ x y : AV, [x, y].getD (Int.toNat 0) .undef = x := fun _ _ => rfl
    have e1 : ∀ x y : AV, [x, y].getD (Int.toNat 1) .undef = y := fun _ _ => rfl
    repeat' first | simp (disch := omega) only [go_sem, hQr, hQn, hQp, wrapK_i64, wrapK_u8, wrapK_u64, Nat.reduceAdd, Nat.reduceBEq, ↓reduceIte, e0, e1] | refine go_ ?_ | refine cf_ c0 ?_ | refine cf_ cL ?_ | refine cf_ p1 ?_ | refine cf_ p2 ?_ | refine cf_ p3 ?_ | refine br_ (fun hw => ?_) (fun hw => ?_) <;> try omega | fail
    all_goals first | exact ab_ | exact leafE rfl rfl
end Go.Proofs.YtnpkjelldjnepaaGreatDoor
namespace Go.AM
open Go.ChangeShapes Go.WideShapes
section
variable {H : Type} {enc : TypeId × Value → H} {P : Program} {w w' : World} {base : Nat} {spare : Nat → Bool} {held : Bool}
theorem DataW_TrodAll_carry : ∀ {ts : List TypeId} {vs : List Value} {ds : List (DataW H)} {ps : List MemPlace}, DataW.TrodAll enc P w base spare held ts vs ds ps → (∀ p ∈ ps, w.sameAt w' p) → DataW.TrodAll enc P w' base spare held ts vs ds ps
  | [], [], [], _, h, _ => h
  | _ :: _, _ :: _, _ :: _, _, ⟨p, q, ⟨n, hn⟩, h2, e⟩, hs => ⟨p, q, ⟨n, DataW.trod_carry n _ _ _ hn (fun x hx => hs x (by rw [e]; exact List.mem_append_left _ hx))⟩, DataW_TrodAll_carry h2 (fun x hx => hs x (by rw [e]; exact List.mem_append_right _ hx)), e⟩
theorem keptBut_of_heap {may : MemPlace → Prop} (h1 : w'.os = w.os) (h2 : w'.output = w.output) (h3 : ∀ b, b < w.heap.size → w'.heap[b]? = w.heap[b]?) : w.keptBut w' may := by
  refine ⟨h1, h2, fun i hi => ?_⟩
  rw [h3 i hi]
  split
  · rename_i a b ha hb
    rw [ha] at hb
    cases Option.some.inj hb
    exact ⟨rfl, rfl, rfl, fun _ _ => rfl⟩
  · rename_i a b ha hb
    rw [ha] at hb
    cases Option.some.inj hb
    exact .inr ⟨rfl, rfl⟩
  · rfl
theorem sameAt_of_heap (h3 : ∀ b, b < w.heap.size → w'.heap[b]? = w.heap[b]?) {p : MemPlace} (hp : p.block < w.heap.size) : w.sameAt w' p := by
  cases p with
  | cell b off => exact cell?_of_heap (h3 b hp) off none
  | map b => exact h3 b hp
def Ghost.all (w : World) : Ghost := Ghost.bare (· < w.heap.size)
theorem Said_of_CallF {f : FuncId} {fn : Func} {s : ChangeSpec} {t : TypeId} {args' : List AV} {W : World} {args : Array Value} {ds gs : List (DataW H)} {before : List MemPlace}
    (h : CallF P f args' (.bool true)) (hW : DataW.Whole enc P fn.params.toList s.vars false W args.toList ds gs before) (hG : GlobR (Ghost.all W) W)
    (K : Kids P (· < P.types.size)) (hz : ∀ t e, t < P.types.size → P.underlying t = some (.slice e) → 0 < P.cellsOf e) (hps : ∀ t ∈ fn.params.toList, t < P.types.size)
    (hvars : s.vars = []) (hrt : fn.resultTypes = #[t]) (ht : P.underlying t = some .bool) (hfn : s.fn H (ds ++ gs) = { results := [.lit (.bool true)], args := ds, vars := [] })
    (hl : args'.length = args.size) (hv : ∀ i, i < args'.length → VR (Ghost.all W) W (args'.getD i .undef) (args.getD i Go.undef)) :
    Calls P f args W fun e W' => ∃ v, e = .returned v ∧ s.post enc P fn false true false false W args v W' := by
  refine ((h []).2 (Ghost.all W) W args (Rel.bare (fun _ h => h) hG) hl hv).mono ?_
  rintro e W' ⟨out, g', σ', hR, hE, hO, rfl, rfl⟩
  have hfr : ∀ b, b < W.heap.size → W'.heap[b]? = W.heap[b]? := fun b hb => hE.frame b hb not_tracked_nil
  cases e with
  | panicked c => exact hO.elim
  | outgrown => exact hO.elim
  | returned v =>
    have hb : v = .bool true := by cases hO; rfl
    subst hb
    refine ⟨_, rfl, ds, gs, before, [], before, [], hW, ?_, ?_, ?_, keptBut_of_heap hE.os hE.output hfr, fun h => by cases h⟩
    · rw [hfn, hrt]
      exact trodAll_mk1 (RowKit.shut_bool ht true)
    · rw [hfn]
      have hlt := hW.lt
      obtain ⟨p, q, h1, h2, rfl, _, _⟩ := hW
      rw [hvars] at h2
      obtain ⟨rfl, rfl⟩ := trodVars_none h2
      rw [List.append_nil] at hlt ⊢
      refine DataW_TrodAll_carry (DataW.TrodAll.respare K hz hps h1 (fun x hx => by simpa using hlt x hx)) (fun x hx => sameAt_of_heap hfr (hlt x hx))
    · rw [hfn, hvars]
      rfl
theorem VR.string {g : Ghost} {w : World} (s : ByteArray) : VR g w (.str s.data.toList) (.string s) := VR.str s.data.toList
end
end Go.AM
namespace Go.AM
open Go.ChangeShapes Go.WideShapes
def VRL (g : Ghost) (w : World) (az : List AV) (vs : List Value) : Prop := az.length = vs.length ∧ ∀ i, i < az.length → VR g w (az.getD i .undef) (vs.getD i Go.undef)
theorem VRL.nil (g : Ghost) (w : World) : VRL g w [] [] := ⟨rfl, fun i hi => by cases hi⟩
theorem VRL.app {g : Ghost} {w : World} {a b : List AV} {x y : List Value} (h : VRL g w a x) (k : VRL g w b y) : VRL g w (a ++ b) (x ++ y) := by
  have h1 := h.1
  refine ⟨by simp [h.1, k.1], fun i hi => ?_⟩
  rw [List.length_append] at hi
  by_cases hl : i < a.length
  · have := h.2 i hl
    rw [List.getD_eq_getElem?_getD, List.getD_eq_getElem?_getD] at this ⊢
    rw [List.getElem?_append_left hl, List.getElem?_append_left (by omega)]
    exact this
  · have := k.2 (i - a.length) (by omega)
    rw [List.getD_eq_getElem?_getD, List.getD_eq_getElem?_getD] at this ⊢
    rw [List.getElem?_append_right (by omega), List.getElem?_append_right (by omega), ← h1]
    exact this
theorem VRL.one {g : Ghost} {w : World} {a : AV} {x : Value} (h : VR g w a x) : VRL g w [a] [x] := ⟨rfl, fun i hi => by
  match i, hi with
  | 0, _ => exact h⟩
theorem VRL.agg {g : Ghost} {w : World} {az : List AV} {vs : Array Value} (h : VRL g w az vs.toList) (hs : az.all AV.scalar = true) : VR g w (.agg az) (.agg vs) := by
  refine .agg az vs (by simpa using h.1) hs (fun i hi => ?_)
  have := h.2 i hi
  simpa [List.getD_eq_getElem?_getD, Array.getD_eq_getD_getElem?] using this
section
variable {H : Type} {enc : TypeId × Value → H} {P : Program} {w : World}
def Reads (enc : TypeId × Value → H) (P : Program) (w : World) (N : Nat) (t : TypeId) (n : Nat) {α : Type} (E : α → List AV) (G : α → Prop) : Prop :=
  P.cellsOf t = n ∧ (∀ a, (E a).length = n) ∧ ∀ fuel cs x, fuel ≤ N → DataW.trod enc P w 0 (fun _ => true) true fuel t cs = some x → ∃ a, G a ∧ VRL (Ghost.all w) w (E a) cs
theorem Reads.weak {N t n : Nat} {α : Type} {E : α → List AV} {G G' : α → Prop} (h : Reads enc P w N t n E G) (hg : ∀ a, G a → G' a) : Reads enc P w N t n E G' :=
  ⟨h.1, h.2.1, fun f cs x hf hx => by obtain ⟨a, h1, h2⟩ := h.2.2 f cs x hf hx; exact ⟨a, hg a h1, h2⟩⟩
theorem Reads.map {N t n : Nat} {α β : Type} {E : α → List AV} {G : α → Prop} {E' : β → List AV} {G' : β → Prop} (h : Reads enc P w N t n E G) (f : α → β) (hE : ∀ a, E' (f a) = E a) (hl : ∀ b, (E' b).length = n) (hg : ∀ a, G a → G' (f a)) : Reads enc P w N t n E' G' :=
  ⟨h.1, hl, fun fu cs x hf hx => by obtain ⟨a, h1, h2⟩ := h.2.2 fu cs x hf hx; exact ⟨f a, hg a h1, by rw [hE]; exact h2⟩⟩
theorem Reads.int {N t : Nat} (ht : P.underlying t = some (.int .i64)) (hc : P.cellsOf t = 1) : Reads enc P w N t 1 (fun n : Int => [.int .i64 n]) (fun n => -9223372036854775808 ≤ n ∧ n ≤ 9223372036854775807) :=
  ⟨hc, fun _ => rfl, fun f cs x _ hx => by
    obtain ⟨n, rfl, _, wf⟩ := DataW.trod_int ht hx
    exact ⟨n, by simpa [Lit.wf, IntKind.min, IntKind.max, IntKind.signed, IntKind.bits] using wf, VRL.one (.int _ _)⟩⟩
theorem Reads.str {N t : Nat} (ht : P.underlying t = some .string) (hc : P.cellsOf t = 1) : Reads enc P w N t 1 (fun s : List UInt8 => [.str s]) (fun _ => True) :=
  ⟨hc, fun _ => rfl, fun f cs x _ hx => by
    obtain ⟨s, rfl, _, _⟩ := DataW.trod_string ht hx
    exact ⟨s.data.toList, trivial, VRL.one (VR.string s)⟩⟩
theorem Reads.bool {N t : Nat} (ht : P.underlying t = some .bool) (hc : P.cellsOf t = 1) : Reads enc P w N t 1 (fun b : Bool => [.bool b]) (fun _ => True) :=
  ⟨hc, fun _ => rfl, fun f cs x _ hx => by
    obtain ⟨b, rfl, _⟩ := DataW.trod_bool ht hx
    exact ⟨b, trivial, VRL.one (.bool b)⟩⟩
theorem Reads.slice {N t e n : Nat} {α : Type} [Inhabited α] {E : α → List AV} {G : α → Prop} (el : El) (mk : α → AV) (ht : P.underlying t = some (.slice e)) (hc : P.cellsOf t = 1) (h : Reads enc P w N e n E G) (hn0 : 0 < n) (hsz : el.sz = n)
    (hfit : ∀ a, (mk a).fits el = true) (hcell : ∀ a c, c < n → (mk a).cell c = (E a).getD c .undef) : Reads enc P w (N + 1) t 1 (fun l : List α => [.lst false el (l.map mk)]) (fun l => ∀ a ∈ l, G a) := by
  refine ⟨hc, fun _ => rfl, fun fuel cs x hf hx => ?_⟩
  rcases DataW.trod_slice ht hx with ⟨rfl, rfl⟩ | ⟨a, len, cap, elems, rest, k, hk, rfl, _, _, hl, _, hlen, hel, _, _⟩
  · exact ⟨[], by simp, VRL.one (.lstE _ _ _ _ (fun h => by cases h))⟩
  have each : ∀ i, i < len → ∃ q : α, G q ∧ ∃ cs', w.cells? 0 (a.add (i * P.cellsOf e)) (P.cellsOf e) = some cs' ∧ VRL (Ghost.all w) w (E q) cs' := fun i hi => by
    have h1 := hel i hi
    rw [List.getElem?_eq_getElem (by omega)] at h1
    obtain ⟨cs', h2, h3⟩ := Option.bind_eq_some_iff.1 h1
    obtain ⟨q, h4, h5⟩ := h.2.2 k cs' _ (by omega) h3
    exact ⟨q, h4, cs', h2, h5⟩
  obtain ⟨q, hq⟩ := Deep.choose_lt each
  refine ⟨(List.range len).map q, fun x hx => by obtain ⟨i, hi, rfl⟩ := List.mem_map.1 hx; exact (hq i (List.mem_range.1 hi)).1, VRL.one ?_⟩
  have hn := h.1
  by_cases h0 : len = 0
  · subst h0; exact .lstE _ _ _ _ (fun h => by cases h)
  have hcells : ∀ i c, i < len → c < n → ∃ v, w.cell? (a.add (i * n + c)) = some v ∧ VR (Ghost.all w) w ((E (q i)).getD c .undef) v := fun i c hi hcc => by
    obtain ⟨_, cs', h2, h3⟩ := hq i hi
    rw [hn] at h2
    obtain ⟨_, h4, h5⟩ := World.cells?_some h2
    have h6 := h5 c hcc
    rw [Deep.add_add, List.getElem?_eq_getElem (by omega)] at h6
    have h7 := h3.2 c (by rw [h.2.1]; exact hcc)
    rw [List.getD_eq_getElem?_getD (l := cs'), List.getElem?_eq_getElem (by omega)] at h7
    exact ⟨_, h6, h7⟩
  obtain ⟨v0, hv0, _⟩ := hcells 0 0 (by omega) (by omega)
  have hspot : a.spot = none := by
    have := World.cell?_spot hv0
    simpa [Addr.add] using this
  obtain ⟨b, off, sp⟩ := a
  simp only at hspot
  subst hspot
  have hlt : b < w.heap.size := by
    rw [add_plain] at hv0
    simp only [World.cell?] at hv0
    split at hv0
    · rename_i x hx; exact (Array.getElem?_eq_some_iff.1 hx).1
    · cases hv0
  have hget : ∀ i, i < len → (((List.range len).map q).map mk).getD i .undef = mk (q i) := fun i hi => by
    simp [List.getD_eq_getElem?_getD, hi]
  have := VR.lst (g := Ghost.all w) (w := w) false el (((List.range len).map q).map mk) b off cap hlt (fun h => by cases h) (by simpa using hl)
    (fun i hi => by rw [hget i (by simpa using hi)]; exact hfit _)
    (fun i c hi hcc => by
      obtain ⟨v, hv, _⟩ := hcells i c (by simpa using hi) (by omega)
      rw [add_plain] at hv
      rw [hsz, hv]; rfl)
    (fun i c hi hcc => by
      obtain ⟨v, hv, hr⟩ := hcells i c (by simpa using hi) (by omega)
      rw [add_plain] at hv
      rw [hget i (by simpa using hi), cellD, hsz, hv, hcell _ _ (by omega)]
      exact hr)
  simpa using this
def FieldsR (enc : TypeId × Value → H) (P : Program) (w : World) (N : Nat) (fs : List Field) (o : Nat) {α : Type} (E : α → List AV) (G : α → Prop) : Prop :=
  ∀ (cs : List Value) (fuel : Nat) (ys : List (DataW H × List MemPlace)), fuel ≤ N → (∀ (i : Nat) (f : Field), fs[i]? = some f → DataW.trod enc P w 0 (fun _ => true) true fuel f.type ((cs.drop f.offset).take (P.cellsOf f.type)) = ys[i]?) → ys.length = fs.length →
    ∃ a, G a ∧ VRL (Ghost.all w) w (E a) ((cs.drop o).take (E a).length)
theorem FieldsR.nil {N o : Nat} : FieldsR enc P w N [] o (fun _ : Unit => []) (fun _ => True) := fun cs fuel ys _ _ _ => ⟨(), trivial, by simpa using VRL.nil _ _⟩
theorem FieldsR.cons {N o n : Nat} {f : Field} {fs : List Field} {α β : Type} {E : α → List AV} {G : α → Prop} {E' : β → List AV} {G' : β → Prop} (h : Reads enc P w N f.type n E G) (ho : f.offset = o) (hk : FieldsR enc P w N fs (o + n) E' G') :
    FieldsR enc P w N (f :: fs) o (fun p : α × β => E p.1 ++ E' p.2) (fun p => G p.1 ∧ G' p.2) := by
  intro cs fuel ys hf hx hl
  cases ys with
  | nil => simp at hl
  | cons y ys =>
    have h0 := hx 0 f rfl
    rw [ho, h.1] at h0
    obtain ⟨a, g1, v1⟩ := h.2.2 fuel _ _ hf (by simpa using h0)
    obtain ⟨b, g2, v2⟩ := hk cs fuel ys hf (fun i f' hf' => by have := hx (i + 1) f' (by simpa using hf'); simpa using this) (by simpa using hl)
    refine ⟨(a, b), ⟨g1, g2⟩, ?_⟩
    have := v1.app v2
    have hlen := h.2.1 a
    have e : (cs.drop o).take n ++ (cs.drop (o + n)).take (E' b).length = (cs.drop o).take (E a ++ E' b).length := by
      rw [List.length_append, hlen, List.take_add, List.drop_drop]
    rwa [e] at this
theorem Reads.struct {N t n : Nat} {fs : Array Field} {α : Type} {E : α → List AV} {G : α → Prop} (ht : P.underlying t = some (.struct fs)) (hc : P.cellsOf t = n) (hE : ∀ a, (E a).length = n) (h : FieldsR enc P w N fs.toList 0 E G) : Reads enc P w (N + 1) t n E G := by
  refine ⟨hc, hE, fun fuel cs x hf hx => ?_⟩
  obtain ⟨xs, k, hk, _, hlen, hxl, hfs⟩ := DataW.trod_struct ht hx
  obtain ⟨a, g, v⟩ := h cs k xs (by omega) (fun i f hf => hfs i f (by simpa using hf)) (by simpa using hxl)
  refine ⟨a, g, ?_⟩
  rw [hE, List.drop_zero, List.take_of_length_le (by omega)] at v
  exact v
theorem Reads.deep {t n : Nat} {α : Type} {E : α → List AV} {G : α → Prop} (h : ∀ N, Reads enc P w N t n E G) {v : Value} {d : DataW H} {ps : List MemPlace} (hd : DataW.Trod enc P w 0 (fun _ => true) true t v d ps) : ∃ a, G a ∧ VRL (Ghost.all w) w (E a) v.cells.toList := by
  obtain ⟨f, hf⟩ := hd
  exact (h f).2.2 f _ _ (Nat.le_refl _) hf
end
end Go.AM
namespace Go.Proofs.YtnpkjelldjnepaaGreatDoor
open Go.AM
set_option maxRecDepth 8000
def rngV (v : Val) : Prop := -9223372036854775808 ≤ v.n ∧ v.n ≤ 9223372036854775807
def rngC (l : List Col) : Prop := ∀ c ∈ l, ∀ v ∈ c.order, rngV v
def rngT (t : Table) : Prop := rngC t.ins ∧ rngC t.outs
section
variable {H : Type} {enc : TypeId × Value → H} {w : World}
abbrev i64R (n : Int) : Prop := -9223372036854775808 ≤ n ∧ n ≤ 9223372036854775807
abbrev RD (enc : TypeId × Value → H) (w : World) (N : Nat) (t : TypeId) (n : Nat) {α : Type} (E : α → List AV) (G : α → Prop) : Prop := Reads enc Tryz.prog w N t n E G
theorem rd_int (N : Nat) {t : TypeId} (ht : Tryz.prog.underlying t = some (.int .i64)) (hc : Tryz.prog.cellsOf t = 1) : RD enc w N t 1 (fun n : Int => [I n]) i64R := Reads.int ht hc
theorem rd_str (N : Nat) : RD enc w N 9 1 (fun s : Str => [.str s]) (fun _ => True) := Reads.str Tryz.underlying9 (by kernel_rfl)
theorem rd_kind (N : Nat) : RD enc w N 69 1 (fun n : Int => [I n]) i64R := rd_int N Tryz.underlying69 (by kernel_rfl)
theorem rd_num (N : Nat) : RD enc w N 3 1 (fun n : Int => [I n]) i64R := rd_int N Tryz.underlying3 (by kernel_rfl)
def cVal (v : Val) : List AV := [I v.kind, I v.n, .str v.s]
theorem rd_val (N : Nat) : RD enc w (N + 1) 71 3 cVal rngV := by
  have h := Reads.struct (enc := enc) (w := w) (N := N) (n := 3) Tryz.underlying71 (by kernel_rfl) (fun _ => rfl) (.cons (rd_kind N) rfl (.cons (rd_num N) rfl (.cons (rd_str N) rfl .nil)))
  exact h.map (fun p => ⟨p.1, p.2.1, p.2.2.1⟩) (fun _ => rfl) (fun _ => rfl) (fun p h => h.2.1)
theorem rd_vals (N : Nat) : RD enc w (N + 2) 28 1 (fun l : List Val => [eVals l]) (fun l => ∀ v ∈ l, rngV v) :=
  Reads.slice EV eVal Tryz.underlying28 (by kernel_rfl) (rd_val N) (by decide) rfl (fun _ => rfl) (fun _ _ _ => rfl)
def cCol (c : Col) : List AV := [.str c.name, I c.kind, eVals c.order]
theorem rd_col (N : Nat) : RD enc w (N + 3) 109 3 cCol (fun c => ∀ v ∈ c.order, rngV v) := by
  have h := Reads.struct (enc := enc) (w := w) (N := N + 2) (n := 3) Tryz.underlying109 (by kernel_rfl) (fun _ => rfl) (.cons (rd_str _) rfl (.cons (rd_kind _) rfl (.cons (rd_vals N) rfl .nil)))
  exact h.map (fun p => ⟨p.1, p.2.1, p.2.2.1⟩) (fun _ => rfl) (fun _ => rfl) (fun p h => h.2.2.1)
theorem rd_cols (N : Nat) : RD enc w (N + 4) 22 1 (fun l : List Col => [eCols l]) rngC :=
  Reads.slice EC eCol Tryz.underlying22 (by kernel_rfl) (rd_col N) (by decide) rfl (fun _ => rfl) (fun _ _ _ => rfl)
theorem rd_strs (N : Nat) : RD enc w (N + 1) 66 1 (fun l : List Str => [eStrs l]) (fun _ => True) := by
  refine (Reads.slice E1 eStr Tryz.underlying66 (by kernel_rfl) (rd_str N) (by decide) rfl (fun _ => rfl) ?_).weak (fun _ _ => trivial)
  intro s c hc
  have h0 : c = 0 := by omega
  subst h0; rfl
def cRule (r : Rule) : List AV := [eStrs r.cells, eStrs r.outs]
theorem rd_rule (N : Nat) : RD enc w (N + 2) 68 2 cRule (fun _ => True) := by
  have h := Reads.struct (enc := enc) (w := w) (N := N + 1) (n := 2) Tryz.underlying68 (by kernel_rfl) (fun _ => rfl) (.cons (rd_strs N) rfl (.cons (rd_strs N) rfl .nil))
  exact h.map (fun p => ⟨p.1, p.2.1⟩) (fun _ => rfl) (fun _ => rfl) (fun p h => trivial)
theorem rd_rules (N : Nat) : RD enc w (N + 3) 25 1 (fun l : List Rule => [eRules l]) (fun _ => True) :=
  (Reads.slice ER eRule Tryz.underlying25 (by kernel_rfl) (rd_rule N) (by decide) rfl (fun _ => rfl) (fun _ _ _ => rfl)).weak (fun _ _ => trivial)
theorem rd_table (N : Nat) : RD enc w (N + 5) 27 6 cTable rngT := by
  have h := Reads.struct (enc := enc) (w := w) (N := N + 4) (n := 6) Tryz.underlying27 (by kernel_rfl) (fun _ => rfl) (.cons (rd_str _) rfl (.cons (rd_cols N) rfl (.cons (rd_cols N) rfl (.cons (rd_int _ Tryz.underlying23 (by kernel_rfl)) rfl (.cons (rd_int _ Tryz.underlying24 (by kernel_rfl)) rfl (.cons (rd_rules (N + 1)) rfl .nil))))))
  exact h.map (fun p => ⟨p.1, p.2.1, p.2.2.1, p.2.2.2.1, p.2.2.2.2.1, p.2.2.2.2.2.1⟩) (fun _ => rfl) (fun _ => rfl) (fun p h => ⟨h.2.1, h.2.2.1⟩)
theorem rd_cmd (N : Nat) : RD enc w (N + 6) 30 12 cCmd (fun _ => True) := by
  have h := Reads.struct (enc := enc) (w := w) (N := N + 5) (n := 12) Tryz.underlying30 (by kernel_rfl) (fun _ => rfl) (.cons (rd_num _) rfl (.cons (rd_table N) rfl (.cons (rd_str _) rfl (.cons (rd_num _) rfl (.cons (rd_vals (N + 3)) rfl (.cons (rd_num _) rfl (.cons (rd_num _) rfl .nil)))))))
  exact h.map (fun p => (⟨p.1, p.2.1, p.2.2.1, p.2.2.2.1, p.2.2.2.2.1, p.2.2.2.2.2.1, p.2.2.2.2.2.2.1⟩ : Cmd)) (fun _ => rfl) (fun _ => rfl) (fun p h => trivial)
theorem cmd_of {v : Value} {d : DataW H} {ps : List MemPlace} {base : Nat} (hval : Value.okWide Tryz.prog w .any base 30 v) (hd : DataW.Trod enc Tryz.prog w 0 (fun _ => true) true 30 v d ps) : ∃ a : Cmd, VR (Ghost.all w) w (eCmd a) v := by
  obtain ⟨cs, rfl, _⟩ := Go.WideShapes.okWide_struct Tryz.underlying30 hval
  obtain ⟨t, _, h2⟩ := Reads.deep (fun N => by
    have := rd_cmd (enc := enc) (w := w) N
    exact ⟨this.1, this.2.1, fun f cs x hf hx => this.2.2 f cs x (by omega) hx⟩) hd
  exact ⟨t, VRL.agg h2 rfl⟩
end
def vCmd : Value := .agg #[.int .i64 0, .string ByteArray.empty, .slice none 0 0, .slice none 0 0, .int .i64 0, .int .i64 0, .slice none 0 0, .string ByteArray.empty, .int .i64 0, .slice none 0 0, .int .i64 0, .int .i64 0]
end Go.Proofs.YtnpkjelldjnepaaGreatDoor
namespace Go.Proofs.YtnpkjelldjnepaaGreatDoor
open Go.AM Go.ChangeShapes Go.WideShapes Go.ChangeAt Go.RowKit
theorem own : ownKnob Tryz.prog.godebug = none := by kernel_rfl
theorem kids : Kids Tryz.prog (· < Tryz.prog.types.size) := kids_rows (by kernel_rfl) (by kernel_rfl)
theorem full : ∀ t e, t < Tryz.prog.types.size → Tryz.prog.underlying t = some (.slice e) → 0 < Tryz.prog.cellsOf e := slices_full_of Tryz.prog (by kernel_rfl)
def laidL : List (String × DataW Unit) := Rows.deskNilRow.laid
theorem pow_of_laid {W : World} (h : laidMetH Tryz.prog laidL W) : GlobR (Ghost.all W) W := by
  have h : laidMet Tryz.prog laidL W := h
  obtain ⟨ps, ⟨_, _, _, _, _, q, _, _, _, _, ⟨_, _, _, _, _, q2, _, _, _, _, ⟨g, t, cs, fuel, p, q3, hg, ht, hv, hd, _, _⟩, _⟩, _⟩, _⟩ := h
  have e : Rows.laid_internal_strconv_uint64pow10 = Lib.tabData (H := Unit) .u64 Lib.pow10Tab := by kernel_rfl
  rw [e] at hd
  have hg1 : g = 1 := Option.some.inj (hg.symm.trans globNamed)
  subst hg1
  have hgt : (Tryz.prog.globals[1]?).map (·.type) = some t := ht
  have ht2 : (Tryz.prog.globals[1]?).map (·.type) = some 328 := by kernel_rfl
  have e3 : t = 328 := Option.some.inj (hgt.symm.trans ht2)
  subst e3
  have hcs := Lib.cells_of_tab Tryz.underlying328 Tryz.underlying180 (by kernel_rfl) (by kernel_rfl) hd
  have hok : GlobOk W := by
    show W.var? Tryz.prog "internal/strconv.uint64pow10" = some (Lib.pow10Tab.map fun z => Value.int .u64 z).toArray
    rw [hv, ← hcs]
  refine ⟨fun b hb => ?_, hok⟩
  simp only [Globs, List.mem_cons, List.not_mem_nil, or_false] at hb
  subst hb
  have hc := Lib.TabIs.cell hok hg 0 (by decide)
  show 1 < W.heap.size
  simp only [World.cell?] at hc
  split at hc
  · rename_i x hx; exact (Array.getElem?_eq_some_iff.1 hx).1
  · cases hc
def litOf : DataW Unit → Value
  | .lit (.int k n) => .int k n
  | _ => Go.undef
def litsOf : DataW Unit → Array Value
  | .agg l => (l.map litOf).toArray
  | _ => #[]
def laidObj (d : DataW Unit) : Obj → Obj
  | .cells _ t fz => .cells (litsOf d) t fz
  | o => o
noncomputable def laidWorld (os : Os) : World :=
  { World.holding Tryz.prog os ⟨#[], #[], []⟩ with heap := (((World.holding Tryz.prog os ⟨#[], #[], []⟩).heap.modify 2 (laidObj Rows.laid_math_bits_deBruijn32tab)).modify 3 (laidObj Rows.laid_math_bits_deBruijn64tab)).modify 1 (laidObj Rows.laid_internal_strconv_uint64pow10) }
theorem laid_met (os : Os) (args : Array Value) : laidMetH Tryz.prog laidL ((laidWorld os).forCall (fun _ _ => 0) ⟨#[], args, []⟩).memory :=
  (laidMet_of_run' 8 (by kernel_rfl) (by kernel_rfl) : laidMet Tryz.prog laidL ((laidWorld os).forCall (fun _ _ => 0) ⟨#[], args, []⟩).memory)
set_option maxRecDepth 100000 in
theorem stepL {H : Type} {enc : TypeId × Value → H} {os : Os} {f : FuncId} {fn : Func} {s : ChangeSpec} (args0 : Array Value)
    (started : os.Started) (noInit : Tryz.checked.prog.inits.idxOf? f = none) (hfn : Tryz.checked.prog.funcs[f]? = some fn)
    (hv : ((laidWorld os).forCall (fun _ _ => 0) ⟨#[], args0, []⟩).variablesB Tryz.checked.prog = true)
    (hr : (((laidWorld os).forCall (fun _ _ => 0) ⟨#[], args0, []⟩).heap.toList.drop Tryz.checked.prog.globals.size).take ((begin Tryz.checked.prog (fun _ _ => 0) default).world.heap.size - Tryz.checked.prog.globals.size) =
      (begin Tryz.checked.prog (fun _ _ => 0) default).world.heap.toList.drop Tryz.checked.prog.globals.size)
    (hok : Input.okWideB Tryz.checked.prog ((laidWorld os).forCall (fun _ _ => 0) ⟨#[], args0, []⟩) f ⟨#[], args0, []⟩ = true)
    (hpre : s.preB enc Tryz.checked.prog fn [] false ((laidWorld os).forCall (fun _ _ => 0) ⟨#[], args0, []⟩).memory args0 8 = true)
    (hsz : s.sizedB enc Tryz.checked.prog fn false ((laidWorld os).forCall (fun _ _ => 0) ⟨#[], args0, []⟩).memory args0 8 = true)
    (contract : ∀ (W : World) (base : Nat) (args : Array Value) (ds gs : List (DataW H)) (before : List MemPlace),
      (∀ (j : Nat) t v, fn.params[j]? = some t → args[j]? = some v → Value.okWide Tryz.prog W .any base t v) →
      DataW.Whole enc Tryz.prog fn.params.toList s.vars false W args.toList ds gs before → GlobR (Ghost.all W) W →
      Calls Tryz.prog f args W fun e W' => ∃ v, e = .returned v ∧ s.post enc Tryz.prog fn false true false false W args v W') :
    ReturnsInHanded {} Tryz.checked os f .any (fun w args => (s.pre enc Tryz.checked.prog fn [] false w args ∧ laidMetH Tryz.prog laidL w) ∧ sizedMet enc Tryz.checked.prog fn (OpenSpec.ofChange s) false w args) (s.post enc Tryz.checked.prog fn false true false false) := by
  refine returnsInHanded_of_change_and (C := Tryz.checked) (X := fun w _ => laidMetH Tryz.prog laidL w) (fun _ _ _ hh h => h.of_heap hh) own started noInit hfn
    (ChangeSpec.witness_at (enc := enc) (C := Tryz.checked) (os := os) (X := fun w _ => laidMetH Tryz.prog laidL w) false (laidWorld os) args0 8 rfl hv hr hok hpre hsz (laid_met os _)) ?_
  intro W base args ds gs before h1 h2 _ _ hL _
  exact contract W base args ds gs before h1 h2 (pow_of_laid hL)
theorem args1 {a : AV} {x : Value} {g : Ghost} {w : World} (h1 : VR g w a x) : ∀ i, i < [a].length → VR g w ([a].getD i .undef) (#[x].getD i Go.undef) := by
  intro i hi
  match i, hi with
  | 0, _ => exact h1
theorem goes_gen (P : Program) (h : P.funcs.any Func.goes = false) (f : FuncId) : P.goes f = false := by
  unfold Program.goes
  rw [h, Bool.and_false, Bool.or_false, List.any_eq_false]
  intro g _
  cases hg : P.funcs[g]? with
  | none => simp
  | some fn =>
    rw [Array.any_eq_false] at h
    obtain ⟨hl, rfl⟩ := Array.getElem?_eq_some_iff.1 hg
    simpa using h g hl
theorem goesBy_gen (P : Program) (h : P.funcs.any Func.goes = false) (c : OpenClaim) (hs : c.start = .entering) : false = c.goesBy P := by
  unfold OpenClaim.goesBy Program.goesAt Program.goesFrom
  rw [hs]
  cases P.funcNamed c.func with
  | none => rfl
  | some f => show false = (P.goes f || false); rw [goes_gen P h]; rfl
theorem goes_none : Tryz.pinned.checked.prog.funcs.any Func.goes = false := by kernel_rfl
theorem fx_laid : laidOutB Tryz.checked.prog = true := by kernel_rfl
theorem fx_maps : mapsRowed Tryz.checked.prog = true := by kernel_rfl
theorem fx_stops : Tryz.checked.prog.stopsHeard = true := by kernel_rfl
theorem fx_enter : Tryz.checked.prog.mayEnter = true := by kernel_rfl
end Go.Proofs.YtnpkjelldjnepaaGreatDoor
