/- Part of a proof: see Root. -/
import Derived.Test.YtmbgnaoilncbnaaGreatW25
import Derived.Test.YtmbgnaoilncbnaaGreatRows
set_option linter.unnecessarySimpa false
set_option linter.unusedSimpArgs false
set_option linter.unusedVariables false
namespace Go.AM
open Go.ChangeShapes Go.WideShapes
def VRL (g : Ghost) (w : World) (az : List AV) (vs : List Value) : Prop := az.length = vs.length ∧ ∀ i, i < az.length → VR g w (az.getD i .undef) (vs.getD i Go.undef)
theorem VRL.nil (g : Ghost) (w : World) : VRL g w [] [] := ⟨rfl, fun i hi => by cases hi⟩
theorem VRL.app {g : Ghost} {w : World} {a b : List AV} {x y : List Value} (h : VRL g w a x) (k : VRL g w b y) : VRL g w (a ++ b) (x ++ y) := by
  have h1 := h.1
  refine ⟨by simp [h.1, k.1], fun i hi => ?_⟩
  rw [List.length_append] at hi
  by_cases hl : i < a.length
  · have := h.2 i hl
    rw [List.getD_eq_getElem?_getD, List.getD_eq_getElem?_getD] at this ⊢
    rw [List.getElem?_append_left hl, List.getElem?_append_left (by omega)]
    exact this
  · have := k.2 (i - a.length) (by omega)
    rw [List.getD_eq_getElem?_getD, List.getD_eq_getElem?_getD] at this ⊢
    rw [List.getElem?_append_right (by omega), List.getElem?_append_right (by omega), ← h1]
    exact this
theorem VRL.one {g : Ghost} {w : World} {a : AV} {x : Value} (h : VR g w a x) : VRL g w [a] [x] := ⟨rfl, fun i hi => by
  match i, hi with
  | 0, _ => exact h⟩
theorem VRL.agg {g : Ghost} {w : World} {az : List AV} {vs : Array Value} (h : VRL g w az vs.toList) (hs : az.all AV.scalar = true) : VR g w (.agg az) (.agg vs) := by
  refine .agg az vs (by simpa using h.1) hs (fun i hi => ?_)
  have := h.2 i hi
  simpa [List.getD_eq_getElem?_getD, Array.getD_eq_getD_getElem?] using this
section
variable {H : Type} {enc : TypeId × Value → H} {P : Program} {w : World}
def Reads (enc : TypeId × Value → H) (P : Program) (w : World) (N : Nat) (t : TypeId) (n : Nat) {α : Type} (E : α → List AV) (G : α → Prop) : Prop :=
  P.cellsOf t = n ∧ (∀ a, (E a).length = n) ∧ ∀ fuel cs x, fuel ≤ N → DataW.trod enc P w 0 (fun _ => true) true fuel t cs = some x → ∃ a, G a ∧ VRL (Ghost.all w) w (E a) cs
theorem Reads.weak {N t n : Nat} {α : Type} {E : α → List AV} {G G' : α → Prop} (h : Reads enc P w N t n E G) (hg : ∀ a, G a → G' a) : Reads enc P w N t n E G' :=
  ⟨h.1, h.2.1, fun f cs x hf hx => by obtain ⟨a, h1, h2⟩ := h.2.2 f cs x hf hx; exact ⟨a, hg a h1, h2⟩⟩
theorem Reads.map {N t n : Nat} {α β : Type} {E : α → List AV} {G : α → Prop} {E' : β → List AV} {G' : β → Prop} (h : Reads enc P w N t n E G) (f : α → β) (hE : ∀ a, E' (f a) = E a) (hl : ∀ b, (E' b).length = n) (hg : ∀ a, G a → G' (f a)) : Reads enc P w N t n E' G' :=
  ⟨h.1, hl, fun fu cs x hf hx => by obtain ⟨a, h1, h2⟩ := h.2.2 fu cs x hf hx; exact ⟨f a, hg a h1, by rw [hE]; exact h2⟩⟩
theorem Reads.int {N t : Nat} (ht : P.underlying t = some (.int .i64)) (hc : P.cellsOf t = 1) : Reads enc P w N t 1 (fun n : Int => [.int .i64 n]) (fun n => -9223372036854775808 ≤ n ∧ n ≤ 9223372036854775807) :=
  ⟨hc, fun _ => rfl, fun f cs x _ hx => by
    obtain ⟨n, rfl, _, wf⟩ := DataW.trod_int ht hx
    exact ⟨n, by simpa [Lit.wf, IntKind.min, IntKind.max, IntKind.signed, IntKind.bits] using wf, VRL.one (.int _ _)⟩⟩
theorem Reads.str {N t : Nat} (ht : P.underlying t = some .string) (hc : P.cellsOf t = 1) : Reads enc P w N t 1 (fun s : List UInt8 => [.str s]) (fun _ => True) :=
  ⟨hc, fun _ => rfl, fun f cs x _ hx => by
    obtain ⟨s, rfl, _, _⟩ := DataW.trod_string ht hx
    exact ⟨s.data.toList, trivial, VRL.one (VR.string s)⟩⟩
theorem Reads.bool {N t : Nat} (ht : P.underlying t = some .bool) (hc : P.cellsOf t = 1) : Reads enc P w N t 1 (fun b : Bool => [.bool b]) (fun _ => True) :=
  ⟨hc, fun _ => rfl, fun f cs x _ hx => by
    obtain ⟨b, rfl, _⟩ := DataW.trod_bool ht hx
    exact ⟨b, trivial, VRL.one (.bool b)⟩⟩
theorem Reads.slice {N t e n : Nat} {α : Type} [Inhabited α] {E : α → List AV} {G : α → Prop} (el : El) (mk : α → AV) (ht : P.underlying t = some (.slice e)) (hc : P.cellsOf t = 1) (h : Reads enc P w N e n E G) (hn0 : 0 < n) (hsz : el.sz = n)
    (hfit : ∀ a, (mk a).fits el = true) (hcell : ∀ a c, c < n → (mk a).cell c = (E a).getD c .undef) : Reads enc P w (N + 1) t 1 (fun l : List α => [.lst false el (l.map mk)]) (fun l => ∀ a ∈ l, G a) := by
  refine ⟨hc, fun _ => rfl, fun fuel cs x hf hx => ?_⟩
  rcases DataW.trod_slice ht hx with ⟨rfl, rfl⟩ | ⟨a, len, cap, elems, rest, k, hk, rfl, _, _, hl, _, hlen, hel, _, _⟩
  · exact ⟨[], by simp, VRL.one (.lstE _ _ _ _ (fun h => by cases h))⟩
  have each : ∀ i, i < len → ∃ q : α, G q ∧ ∃ cs', w.cells? 0 (a.add (i * P.cellsOf e)) (P.cellsOf e) = some cs' ∧ VRL (Ghost.all w) w (E q) cs' := fun i hi => by
    have h1 := hel i hi
    rw [List.getElem?_eq_getElem (by omega)] at h1
    obtain ⟨cs', h2, h3⟩ := Option.bind_eq_some_iff.1 h1
    obtain ⟨q, h4, h5⟩ := h.2.2 k cs' _ (by omega) h3
    exact ⟨q, h4, cs', h2, h5⟩
  obtain ⟨q, hq⟩ := Deep.choose_lt each
  refine ⟨(List.range len).map q, fun x hx => by obtain ⟨i, hi, rfl⟩ := List.mem_map.1 hx; exact (hq i (List.mem_range.1 hi)).1, VRL.one ?_⟩
  have hn := h.1
  by_cases h0 : len = 0
  · subst h0; exact .lstE _ _ _ _ (fun h => by cases h)
  have hcells : ∀ i c, i < len → c < n → ∃ v, w.cell? (a.add (i * n + c)) = some v ∧ VR (Ghost.all w) w ((E (q i)).getD c .undef) v := fun i c hi hcc => by
    obtain ⟨_, cs', h2, h3⟩ := hq i hi
    rw [hn] at h2
    obtain ⟨_, h4, h5⟩ := World.cells?_some h2
    have h6 := h5 c hcc
    rw [Deep.add_add, List.getElem?_eq_getElem (by omega)] at h6
    have h7 := h3.2 c (by rw [h.2.1]; exact hcc)
    rw [List.getD_eq_getElem?_getD (l := cs'), List.getElem?_eq_getElem (by omega)] at h7
    exact ⟨_, h6, h7⟩
  obtain ⟨v0, hv0, _⟩ := hcells 0 0 (by omega) (by omega)
  have hspot : a.spot = none := by
    have := World.cell?_spot hv0
    simpa [Addr.add] using this
  obtain ⟨b, off, sp⟩ := a
  simp only at hspot
  subst hspot
  have hlt : b < w.heap.size := by
    rw [add_plain] at hv0
    simp only [World.cell?] at hv0
    split at hv0
    · rename_i x hx; exact (Array.getElem?_eq_some_iff.1 hx).1
    · cases hv0
  have hget : ∀ i, i < len → (((List.range len).map q).map mk).getD i .undef = mk (q i) := fun i hi => by
    simp [List.getD_eq_getElem?_getD, hi]
  have := VR.lst (g := Ghost.all w) (w := w) false el (((List.range len).map q).map mk) b off cap hlt (fun h => by cases h) (by simpa using hl)
    (fun i hi => by rw [hget i (by simpa using hi)]; exact hfit _)
    (fun i c hi hcc => by
      obtain ⟨v, hv, _⟩ := hcells i c (by simpa using hi) (by omega)
      rw [add_plain] at hv
      rw [hsz, hv]; rfl)
    (fun i c hi hcc => by
      obtain ⟨v, hv, hr⟩ := hcells i c (by simpa using hi) (by omega)
      rw [add_plain] at hv
      rw [hget i (by simpa using hi), cellD, hsz, hv, hcell _ _ (by omega)]
      exact hr)
  simpa using this
def FieldsR (enc : TypeId × Value → H) (P : Program) (w : World) (N : Nat) (fs : List Field) (o : Nat) {α : Type} (E : α → List AV) (G : α → Prop) : Prop :=
  ∀ (cs : List Value) (fuel : Nat) (ys : List (DataW H × List MemPlace)), fuel ≤ N → (∀ (i : Nat) (f : Field), fs[i]? = some f → DataW.trod enc P w 0 (fun _ => true) true fuel f.type ((cs.drop f.offset).take (P.cellsOf f.type)) = ys[i]?) → ys.length = fs.length →
    ∃ a, G a ∧ VRL (Ghost.all w) w (E a) ((cs.drop o).take (E a).length)
theorem FieldsR.nil {N o : Nat} : FieldsR enc P w N [] o (fun _ : Unit => []) (fun _ => True) := fun cs fuel ys _ _ _ => ⟨(), trivial, by simpa using VRL.nil _ _⟩
theorem FieldsR.cons {N o n : Nat} {f : Field} {fs : List Field} {α β : Type} {E : α → List AV} {G : α → Prop} {E' : β → List AV} {G' : β → Prop} (h : Reads enc P w N f.type n E G) (ho : f.offset = o) (hk : FieldsR enc P w N fs (o + n) E' G') :
    FieldsR enc P w N (f :: fs) o (fun p : α × β => E p.1 ++ E' p.2) (fun p => G p.1 ∧ G' p.2) := by
  intro cs fuel ys hf hx hl
  cases ys with
  | nil => simp at hl
  | cons y ys =>
    have h0 := hx 0 f rfl
    rw [ho, h.1] at h0
    obtain ⟨a, g1, v1⟩ := h.2.2 fuel _ _ hf (by simpa using h0)
    obtain ⟨b, g2, v2⟩ := hk cs fuel ys hf (fun i f' hf' => by have := hx (i + 1) f' (by simpa using hf'); simpa using this) (by simpa using hl)
    refine ⟨(a, b), ⟨g1, g2⟩, ?_⟩
    have := v1.app v2
    have hlen := h.2.1 a
    have e : (cs.drop o).take n ++ (cs.drop (o + n)).take (E' b).length = (cs.drop o).take (E a ++ E' b).length := by
      rw [List.length_append, hlen, List.take_add, List.drop_drop]
    rwa [e] at this
theorem Reads.struct {N t n : Nat} {fs : Array Field} {α : Type} {E : α → List AV} {G : α → Prop} (ht : P.underlying t = some (.struct fs)) (hc : P.cellsOf t = n) (hE : ∀ a, (E a).length = n) (h : FieldsR enc P w N fs.toList 0 E G) : Reads enc P w (N + 1) t n E G := by
  refine ⟨hc, hE, fun fuel cs x hf hx => ?_⟩
  obtain ⟨xs, k, hk, _, hlen, hxl, hfs⟩ := DataW.trod_struct ht hx
  obtain ⟨a, g, v⟩ := h cs k xs (by omega) (fun i f hf => hfs i f (by simpa using hf)) (by simpa using hxl)
  refine ⟨a, g, ?_⟩
  rw [hE, List.drop_zero, List.take_of_length_le (by omega)] at v
  exact v
theorem Reads.deep {t n : Nat} {α : Type} {E : α → List AV} {G : α → Prop} (h : ∀ N, Reads enc P w N t n E G) {v : Value} {d : DataW H} {ps : List MemPlace} (hd : DataW.Trod enc P w 0 (fun _ => true) true t v d ps) : ∃ a, G a ∧ VRL (Ghost.all w) w (E a) v.cells.toList := by
  obtain ⟨f, hf⟩ := hd
  exact (h f).2.2 f _ _ (Nat.le_refl _) hf
end
end Go.AM
namespace Go.Proofs.YtmbgnaoilncbnaaGreat
open Go.AM Go.ChangeShapes Go.WideShapes Go.ChangeAt Go.RowKit
set_option maxRecDepth 8000
section
variable {H : Type} {enc : TypeId × Value → H} {w : World}
abbrev RD (enc : TypeId × Value → H) (w : World) (N : Nat) (t : TypeId) (n : Nat) {α : Type} (E : α → List AV) (G : α → Prop) : Prop := Reads enc Tryz.prog w N t n E G
theorem rd_int (N : Nat) {t : TypeId} (ht : Tryz.prog.underlying t = some (.int .i64)) (hc : Tryz.prog.cellsOf t = 1) : RD enc w N t 1 (fun n : Int => [I n]) rng := Reads.int ht hc
theorem rd_str (N : Nat) : RD enc w N 9 1 (fun s : Str => [.str s]) (fun _ => True) := Reads.str Tryz.underlying9 (by kernel_rfl)
theorem rd_num (N : Nat) : RD enc w N 3 1 (fun n : Int => [I n]) rng := rd_int N Tryz.underlying3 (by kernel_rfl)
def cVal (v : Val) : List AV := [I v.kind, I v.n, .str v.s]
theorem rd_val (N : Nat) : RD enc w (N + 1) 59 3 cVal rngV := by
  have h := Reads.struct (enc := enc) (w := w) (N := N) (n := 3) Tryz.underlying59 (by kernel_rfl) (fun _ => rfl) (.cons (rd_int N Tryz.underlying57 (by kernel_rfl)) rfl (.cons (rd_num N) rfl (.cons (rd_str N) rfl .nil)))
  exact h.map (fun p => ⟨p.1, p.2.1, p.2.2.1⟩) (fun _ => rfl) (fun _ => rfl) (fun p h => h.2.1)
theorem rd_vals (N : Nat) : RD enc w (N + 2) 22 1 (fun l : List Val => [eVals l]) (fun l => ∀ v ∈ l, rngV v) :=
  Reads.slice EV eVal Tryz.underlying22 (by kernel_rfl) (rd_val N) (by decide) rfl (fun _ => rfl) (fun _ _ _ => rfl)
theorem rd_rows (N : Nat) : RD enc w (N + 3) 25 1 (fun l : List (List Val) => [eRows l]) (fun l => ∀ r ∈ l, ∀ v ∈ r, rngV v) := by
  refine Reads.slice E1 eVals Tryz.underlying25 (by kernel_rfl) (rd_vals N) (by decide) rfl (fun _ => rfl) ?_
  intro s c hc
  have h0 : c = 0 := by omega
  subst h0; rfl
theorem rd_ints (N : Nat) : RD enc w (N + 1) 24 1 (fun l : List Int => [eInts l]) (fun l => ∀ n ∈ l, rng n) := by
  refine Reads.slice E1 eInt Tryz.underlying24 (by kernel_rfl) (rd_num N) (by decide) rfl (fun _ => rfl) ?_
  intro s c hc
  have h0 : c = 0 := by omega
  subst h0; rfl
structure OutS where
  err : Int
  rules : List Int
  rows : List (List Val)
deriving Inhabited
def cOutS (o : OutS) : List AV := [I o.err, eInts o.rules, eRows o.rows]
theorem rd_out (N : Nat) : RD enc w (N + 4) 27 3 cOutS (fun o => rng o.err ∧ (∀ n ∈ o.rules, rng n) ∧ ∀ r ∈ o.rows, ∀ v ∈ r, rngV v) := by
  have h := Reads.struct (enc := enc) (w := w) (N := N + 3) (n := 3) Tryz.underlying27 (by kernel_rfl) (fun _ => rfl) (.cons (rd_int _ Tryz.underlying23 (by kernel_rfl)) rfl (.cons (rd_ints (N + 2)) rfl (.cons (rd_rows N) rfl .nil)))
  exact h.map (fun p => ⟨p.1, p.2.1, p.2.2.1⟩) (fun _ => rfl) (fun _ => rfl) (fun p h => ⟨h.1, h.2.1, h.2.2.1⟩)
theorem rd_ent (N : Nat) : RD enc w (N + 5) 29 6 cEnt rngEnt := by
  have h := Reads.struct (enc := enc) (w := w) (N := N + 4) (n := 6) Tryz.underlying29 (by kernel_rfl) (fun _ => rfl) (.cons (rd_str _) rfl (.cons (rd_num _) rfl (.cons (rd_vals (N + 2)) rfl (.cons (rd_out N) rfl .nil))))
  exact h.map (fun p => (⟨p.1, p.2.1, p.2.2.1, p.2.2.2.1.err, p.2.2.2.1.rules, p.2.2.2.1.rows⟩ : Ent)) (fun _ => rfl) (fun _ => rfl) (fun p h => ⟨h.2.1, h.2.2.1, h.2.2.2.1.1, h.2.2.2.1.2.1, h.2.2.2.1.2.2⟩)
theorem ent_of {v : Value} {d : DataW H} {ps : List MemPlace} {base : Nat} (hval : Value.okWide Tryz.prog w .any base 29 v) (hd : DataW.Trod enc Tryz.prog w 0 (fun _ => true) true 29 v d ps) : ∃ e : Ent, rngEnt e ∧ VR (Ghost.all w) w (eEnt e) v := by
  obtain ⟨cs, rfl, _⟩ := Go.WideShapes.okWide_struct Tryz.underlying29 hval
  obtain ⟨t, h1, h2⟩ := Reads.deep (fun N => by
    have := rd_ent (enc := enc) (w := w) N
    exact ⟨this.1, this.2.1, fun f cs x hf hx => this.2.2 f cs x (by omega) hx⟩) hd
  exact ⟨t, h1, VRL.agg h2 rfl⟩
end
theorem own : ownKnob Tryz.prog.godebug = none := by kernel_rfl
theorem kids : Kids Tryz.prog (· < Tryz.prog.types.size) := kids_rows (by kernel_rfl) (by kernel_rfl)
theorem full : ∀ t e, t < Tryz.prog.types.size → Tryz.prog.underlying t = some (.slice e) → 0 < Tryz.prog.cellsOf e := slices_full_of Tryz.prog (by kernel_rfl)
theorem globs (W : World) : GlobR (Ghost.all W) W := ⟨fun b hb => (by simp [Globs] at hb), trivial⟩
theorem stepW {H : Type} {enc : TypeId × Value → H} {os : Os} {f : FuncId} {fn : Func} {s : ChangeSpec}
    (started : os.Started) (noInit : Tryz.checked.prog.inits.idxOf? f = none) (hfn : Tryz.checked.prog.funcs[f]? = some fn)
    (witness : ∃ (w : World) (tape : Tape) (i : Input), w.os = os ∧ (w.forCall tape i).Shaped Tryz.checked.prog ∧ i.vars = [] ∧ Input.okWide Tryz.checked.prog (w.forCall tape i) .any w.heap.size f i ∧
      s.pre6 enc Tryz.checked.prog fn [] false (w.forCall tape i).memory i.args ∧ ({} : Assume).holds Tryz.checked.prog (lone (Frame.enter Tryz.checked.prog f i.args .normal) [] (w.forCall tape i)))
    (contract : ∀ (W : World) (base : Nat) (args : Array Value) (ds gs : List (DataW H)) (before : List MemPlace),
      (∀ (j : Nat) t v, fn.params[j]? = some t → args[j]? = some v → Value.okWide Tryz.prog W .any base t v) →
      DataW.Whole enc Tryz.prog fn.params.toList s.vars false W args.toList ds gs before →
      (DataW.weightsEach Tryz.prog (fn.params.toList ++ s.plain.varTypes Tryz.prog) (ds ++ gs)).all (· ≤ reachBytes) = true →
      Calls Tryz.prog f args W fun e W' => ∃ v, e = .returned v ∧ s.post enc Tryz.prog fn false true false false W args v W') :
    ReturnsInHanded {} Tryz.checked os f .any (s.pre6 enc Tryz.checked.prog fn [] false) (s.post enc Tryz.checked.prog fn false true false false) := by
  have e : s.pre6 enc Tryz.checked.prog fn [] false = fun w args => (s.pre enc Tryz.checked.prog fn [] false w args ∧ True) ∧ sizedMet enc Tryz.checked.prog fn (OpenSpec.ofChange s) false w args := by
    funext w args; simp [ChangeSpec.pre6]
  rw [e]
  refine returnsInHanded_of_change_and (C := Tryz.checked) (X := fun _ _ => True) (fun _ _ _ _ _ => trivial) own started noInit hfn ?_ ?_
  · obtain ⟨w, tape, i, h1, h2, h3, h4, h5, h6⟩ := witness
    exact ⟨w, tape, i, h1, h2, h3, h4, ⟨⟨h5.1, trivial⟩, h5.2⟩, h6⟩
  · intro W base args ds gs before h1 h2 _ h3 _ _
    exact contract W base args ds gs before h1 h2 h3
theorem args2 {a b : AV} {x y : Value} {g : Ghost} {w : World} (h1 : VR g w a x) (h2 : VR g w b y) :
    ∀ i, i < [a, b].length → VR g w ([a, b].getD i .undef) (#[x, y].getD i Go.undef) := by
  intro i hi
  match i, hi with
  | 0, _ => exact h1
  | 1, _ => exact h2
end Go.Proofs.YtmbgnaoilncbnaaGreat
