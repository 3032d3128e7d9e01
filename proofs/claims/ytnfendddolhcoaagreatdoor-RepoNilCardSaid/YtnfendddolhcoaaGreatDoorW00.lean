/- Part of a proof: see Root. -/
import Derived.Calls
import Derived.Orders
import Derived.Below
set_option linter.unnecessarySimpa false
set_option linter.unusedSectionVars false
set_option linter.unusedSimpArgs false
set_option linter.unusedVariables false
namespace Go.AM
def Globs : List Nat := []
def GlobOk (_ : World) : Prop := True
theorem GlobOk.of_heap {w w' : World} (_ : GlobOk w) (_ : ∀ b ∈ Globs, w'.heap[b]? = w.heap[b]?) : GlobOk w' := trivial
end Go.AM
namespace Go.AM
structure El where
  ag : Bool
  sz : Nat
deriving DecidableEq, Inhabited, Repr
inductive AV where
  | undef
  | bool (b : Bool)
  | int (k : IntKind) (n : Int)
  | str (s : List UInt8)
  | agg (cs : List AV)
  | tup (vs : List AV)
  | nils
  | lst (full : Bool) (el : El) (xs : List AV)
  | own (el : El) (l m lo n : Nat)
  | ref (l off : Nat)
  | eref (el : El) (x : AV) (off : Nat)
  | vref (el : El) (l m i off : Nat)
  | nilp
  | nilf
  | nili
  | fn (f : Fn) (first cap : List AV)
  | ifc (t : TypeId) (v : AV)
  | nilm
  | mp (l : Nat)
  | yld (l : Nat)
  | asl (el : El) (p : AV) (n : Nat)
  | opq
deriving Inhabited
def AV.scalar : AV → Bool
  | .agg _ | .tup _ | .undef => false
  | _ => true
def AV.cell : AV → Nat → AV
  | .agg cs, i => cs.getD i .undef
  | v, _ => v
def AV.cells : AV → List AV
  | .agg cs => cs
  | v => [v]
def AV.fits (el : El) : AV → Bool
  | .agg cs => el.ag && cs.length == el.sz && cs.all AV.scalar
  | .tup _ | .undef => false
  | _ => !el.ag && el.sz == 1
structure Ghost where
  imm : Nat → Prop
  n : Nat
  ver : Nat → Nat
  base : Nat → Option Nat
  cap : Nat → Nat
  off : Nat → Nat
def cellD (w : World) (a : Addr) : Value := (w.cell? a).getD undef
def OwnP (g : Ghost) (el : El) (l m lo n : Nat) (v : Value) : Prop :=
  l < g.n ∧ m ≤ g.ver l ∧ ∃ A cap, v = .slice A n cap ∧ (m = g.ver l → lo + n ≤ m ∧ cap + lo = g.cap l ∧
    (lo < g.cap l → A = (g.base l).map fun b => ⟨b, g.off l + lo * el.sz, none⟩))
def RefP (g : Ghost) (l off : Nat) (v : Value) : Prop :=
  (l < g.n ∧ 1 ≤ g.ver l) ∧ ∃ A, v = .pointer (some A) ∧ (g.ver l = 1 → g.base l = some A.block ∧ A = ⟨A.block, off, none⟩)
def VrefP (g : Ghost) (el : El) (l m i off : Nat) (v : Value) : Prop :=
  l < g.n ∧ m ≤ g.ver l ∧ ∃ A, v = .pointer (some A) ∧ (m = g.ver l → g.base l = some A.block ∧ A = ⟨A.block, g.off l + i * el.sz + off, none⟩)
def MpP (g : Ghost) (l : Nat) (v : Value) : Prop :=
  l < g.n ∧ ∃ b, v = .map (some b) ∧ (g.ver l = 0 → g.base l = some b)
def YldP (g : Ghost) (l : Nat) (v : Value) : Prop :=
  l < g.n ∧ ∃ b, v = .func (.yield b) #[] #[] ∧ (g.ver l = 0 → g.base l = some b)
inductive VR (g : Ghost) (w : World) : AV → Value → Prop where
  | undef (v : Value) : VR g w .undef v
  | bool (b : Bool) : VR g w (.bool b) (.bool b)
  | int (k : IntKind) (n : Int) : VR g w (.int k n) (.int k n)
  | str (s : List UInt8) : VR g w (.str s) (.string ⟨s.toArray⟩)
  | agg (cs : List AV) (vs : Array Value) (hl : cs.length = vs.size) (hs : cs.all AV.scalar = true)
      (h : ∀ i, i < cs.length → VR g w (cs.getD i .undef) (vs.getD i Go.undef)) : VR g w (.agg cs) (.agg vs)
  | tup (cs : List AV) (vs : Array Value) (hl : cs.length = vs.size)
      (h : ∀ i, i < cs.length → VR g w (cs.getD i .undef) (vs.getD i Go.undef)) : VR g w (.tup cs) (.tuple vs)
  | nils : VR g w .nils (.slice none 0 0)
  | lstE (f : Bool) (el : El) (b : Option Addr) (cap : Nat) (hf : f = true → cap = 0) : VR g w (.lst f el []) (.slice b 0 cap)
  | lst (f : Bool) (el : El) (xs : List AV) (b off cap : Nat) (hi : g.imm b) (hf : f = true → cap = xs.length) (hx : xs.length ≤ cap)
      (ft : ∀ i, i < xs.length → (xs.getD i .undef).fits el = true)
      (hc : ∀ i c, i < xs.length → c < el.sz → (w.cell? ⟨b, off + (i * el.sz + c), none⟩).isSome = true)
      (h : ∀ i c, i < xs.length → c < el.sz → VR g w ((xs.getD i .undef).cell c) (cellD w ⟨b, off + (i * el.sz + c), none⟩)) :
      VR g w (.lst f el xs) (.slice (some ⟨b, off, none⟩) xs.length cap)
  | own (el : El) (l m lo n : Nat) (v : Value) (h : OwnP g el l m lo n v) : VR g w (.own el l m lo n) v
  | ref (l off : Nat) (v : Value) (h : RefP g l off v) : VR g w (.ref l off) v
  | eref (el : El) (x : AV) (off b o : Nat) (hi : g.imm b) (ft : x.fits el = true)
      (hc : ∀ c, c < el.sz → (w.cell? ⟨b, o + c, none⟩).isSome = true)
      (h : ∀ c, c < el.sz → VR g w (x.cell c) (cellD w ⟨b, o + c, none⟩)) :
      VR g w (.eref el x off) (.pointer (some ⟨b, o + off, none⟩))
  | vref (el : El) (l m i off : Nat) (v : Value) (h : VrefP g el l m i off v) : VR g w (.vref el l m i off) v
  | nilp : VR g w .nilp (.pointer none)
  | nilf : VR g w .nilf .nilFunc
  | nili : VR g w .nili .nilIface
  | fn (f : Fn) (first cap : List AV) (first' cap' : Array Value) (hl : first.length = first'.size) (hl' : cap.length = cap'.size)
      (h : ∀ i, i < first.length → VR g w (first.getD i .undef) (first'.getD i Go.undef))
      (h' : ∀ i, i < cap.length → VR g w (cap.getD i .undef) (cap'.getD i Go.undef)) : VR g w (.fn f first cap) (.func f first' cap')
  | ifc (t : TypeId) (a : AV) (v : Value) (h : VR g w a v) : VR g w (.ifc t a) (.iface t v)
  | nilm : VR g w .nilm (.map none)
  | mp (l : Nat) (v : Value) (h : MpP g l v) : VR g w (.mp l) v
  | yld (l : Nat) (v : Value) (h : YldP g l v) : VR g w (.yld l) v
  | opq (v : Value) (h : v.oneCell' = true) : VR g w .opq v
  | asl (el : El) (p : AV) (n : Nat) (A : Addr) (cap : Nat) (hn : 0 < n) (hc : n ≤ cap) (h : VR g w p (.pointer (some A))) : VR g w (.asl el p n) (.slice (some A) n cap)
structure Mono (g : Ghost) (w : World) (g' : Ghost) (w' : World) : Prop where
  imm : ∀ b, g.imm b → g'.imm b ∧ w'.heap[b]? = w.heap[b]?
  n : g.n ≤ g'.n
  ver : ∀ l, l < g.n → g.ver l ≤ g'.ver l ∧ (g'.ver l = g.ver l → g'.base l = g.base l ∧ g'.cap l = g.cap l ∧ g'.off l = g.off l)
theorem Mono.refl (g : Ghost) (w : World) : Mono g w g w := ⟨fun _ h => ⟨h, rfl⟩, Nat.le_refl _, fun _ _ => ⟨Nat.le_refl _, fun _ => ⟨rfl, rfl, rfl⟩⟩⟩
theorem Mono.trans {g1 g2 g3 : Ghost} {w1 w2 w3 : World} (h : Mono g1 w1 g2 w2) (k : Mono g2 w2 g3 w3) : Mono g1 w1 g3 w3 := by
  refine ⟨fun b hb => ?_, Nat.le_trans h.n k.n, fun l hl => ?_⟩
  · obtain ⟨h1, h2⟩ := h.imm b hb
    obtain ⟨h3, h4⟩ := k.imm b h1
    exact ⟨h3, h4.trans h2⟩
  · obtain ⟨a1, a2⟩ := h.ver l hl
    obtain ⟨b1, b2⟩ := k.ver l (Nat.lt_of_lt_of_le hl h.n)
    refine ⟨Nat.le_trans a1 b1, fun e => ?_⟩
    have e1 : g2.ver l = g1.ver l := by omega
    have e2 : g3.ver l = g2.ver l := by omega
    exact ⟨(b2 e2).1.trans (a2 e1).1, (b2 e2).2.1.trans (a2 e1).2.1, (b2 e2).2.2.trans (a2 e1).2.2⟩
theorem cell?_of_heap {w w' : World} {b : Nat} (h : w'.heap[b]? = w.heap[b]?) (o : Nat) (s : Option Nat) : w'.cell? ⟨b, o, s⟩ = w.cell? ⟨b, o, s⟩ := by
  simp only [World.cell?, h]
theorem frozen?_of_heap {w w' : World} {b : Nat} (h : w'.heap[b]? = w.heap[b]?) (o : Nat) (s : Option Nat) : w'.frozen? ⟨b, o, s⟩ = w.frozen? ⟨b, o, s⟩ := by
  simp only [World.frozen?, h]
theorem cellD_of_heap {w w' : World} {b : Nat} (h : w'.heap[b]? = w.heap[b]?) (o : Nat) (s : Option Nat) : cellD w' ⟨b, o, s⟩ = cellD w ⟨b, o, s⟩ := by
  simp only [cellD, cell?_of_heap h]
theorem VR.mono {g g' : Ghost} {w w' : World} (hm : Mono g w g' w') {a : AV} {v : Value} (h : VR g w a v) : VR g' w' a v := by
  induction h with
  | undef v => exact .undef v
  | bool b => exact .bool b
  | int k n => exact .int k n
  | str s => exact .str s
  | agg cs vs hl hs _ ih => exact .agg cs vs hl hs ih
  | tup cs vs hl _ ih => exact .tup cs vs hl ih
  | nils => exact .nils
  | lstE f el b cap hf => exact .lstE f el b cap hf
  | lst f el xs b off cap hi hf hx ft hc _ ih =>
    obtain ⟨hi', he⟩ := hm.imm b hi
    refine .lst f el xs b off cap hi' hf hx ft (fun i c h1 h2 => ?_) (fun i c h1 h2 => ?_)
    · rw [cell?_of_heap he]; exact hc i c h1 h2
    · rw [cellD_of_heap he]; exact ih i c h1 h2
  | own el l m lo n v h =>
    obtain ⟨h1, h2, A, cap, h3, h4⟩ := h
    obtain ⟨v1, v2⟩ := hm.ver l h1
    refine .own el l m lo n v ⟨Nat.lt_of_lt_of_le h1 hm.n, Nat.le_trans h2 v1, A, cap, h3, fun e => ?_⟩
    have e1 : g'.ver l = g.ver l := by omega
    obtain ⟨b1, b2, b3⟩ := v2 e1
    rw [b1, b2, b3]
    exact h4 (by omega)
  | ref l off v h =>
    obtain ⟨⟨h1, h0⟩, A, h2, h3⟩ := h
    obtain ⟨v1, v2⟩ := hm.ver l h1
    refine .ref l off v ⟨⟨Nat.lt_of_lt_of_le h1 hm.n, Nat.le_trans h0 v1⟩, A, h2, fun e => ?_⟩
    have e1 : g'.ver l = g.ver l := by omega
    rw [(v2 e1).1]
    exact h3 (by omega)
  | eref el x off b o hi ft hc _ ih =>
    obtain ⟨hi', he⟩ := hm.imm b hi
    refine .eref el x off b o hi' ft (fun c h2 => ?_) (fun c h2 => ?_)
    · rw [cell?_of_heap he]; exact hc c h2
    · rw [cellD_of_heap he]; exact ih c h2
  | vref el l m i off v h =>
    obtain ⟨h1, h2, A, h3, h4⟩ := h
    obtain ⟨v1, v2⟩ := hm.ver l h1
    refine .vref el l m i off v ⟨Nat.lt_of_lt_of_le h1 hm.n, Nat.le_trans h2 v1, A, h3, fun e => ?_⟩
    have e1 : g'.ver l = g.ver l := by omega
    rw [(v2 e1).1, (v2 e1).2.2]
    exact h4 (by omega)
  | nilp => exact .nilp
  | nilf => exact .nilf
  | nili => exact .nili
  | fn f first cap first' cap' hl hl' _ _ ih ih' => exact .fn f first cap first' cap' hl hl' ih ih'
  | ifc t a v _ ih => exact .ifc t a v ih
  | nilm => exact .nilm
  | opq v h => exact .opq v h
  | mp l v h =>
    obtain ⟨h1, b, h2, h3⟩ := h
    obtain ⟨v1, v2⟩ := hm.ver l h1
    refine .mp l v ⟨Nat.lt_of_lt_of_le h1 hm.n, b, h2, fun e => ?_⟩
    have e1 : g'.ver l = g.ver l := by omega
    rw [(v2 e1).1]
    exact h3 (by omega)
  | yld l v h =>
    obtain ⟨h1, b, h2, h3⟩ := h
    obtain ⟨v1, v2⟩ := hm.ver l h1
    refine .yld l v ⟨Nat.lt_of_lt_of_le h1 hm.n, b, h2, fun e => ?_⟩
    have e1 : g'.ver l = g.ver l := by omega
    rw [(v2 e1).1]
    exact h3 (by omega)
  | asl el p n A cap hn hc _ ih => exact .asl el p n A cap hn hc ih
theorem VR.oneCell {g : Ghost} {w : World} {a : AV} {v : Value} (h : VR g w a v) (hs : a.scalar = true) : v.oneCell' = true := by
  cases h <;> first
    | rfl
    | (simp [AV.scalar] at hs; done)
    | skip
  case own h => obtain ⟨_, _, A, cap, rfl, _⟩ := h; rfl
  case ref h => obtain ⟨_, A, rfl, _⟩ := h; rfl
  case vref h => obtain ⟨_, _, A, rfl, _⟩ := h; rfl
  case mp h => obtain ⟨_, A, rfl, _⟩ := h; rfl
  case opq h => exact h
  case yld h => obtain ⟨_, A, rfl, _⟩ := h; rfl
inductive AObj where
  | cellsT (T : Option TypeId) (cs : List AV)
  | vecT (T : Option TypeId) (el : El) (xs : List AV)
  | siter (s : List UInt8) (pos : Nat)
  | map (es : List (AV × AV))
  | loop (nt : Nat) (e : Nat → AV) (ps : Array Tmp) (assign body : Code) (st : LoopState) (pend : Option Code)
  | dead
  | resv
deriving Inhabited
abbrev AObj.cells (cs : List AV) : AObj := .cellsT none cs
abbrev AObj.vec (el : El) (xs : List AV) : AObj := .vecT none el xs
def TyOk (w : World) (b n : Nat) : Option TypeId → Prop
  | none => True
  | some T => w.shape? b = some (T, n)
theorem TyOk.of_heap {w w' : World} {b n : Nat} {T : Option TypeId} (h : TyOk w b n T) (he : w'.heap[b]? = w.heap[b]?) : TyOk w' b n T := by
  cases T with
  | none => trivial
  | some T => simp only [TyOk, World.shape?] at *; rw [he]; exact h
def TyV (w : World) (b n o : Nat) : Option TypeId → Prop
  | none => True
  | some T => w.shape? b = some (T, n) ∧ o = 0
theorem TyV.of_heap {w w' : World} {b n o : Nat} {T : Option TypeId} (h : TyV w b n o T) (he : w'.heap[b]? = w.heap[b]?) : TyV w' b n o T := by
  cases T with
  | none => trivial
  | some T => simp only [TyV, World.shape?] at *; rw [he]; exact h
theorem TyOk.v {w : World} {b n : Nat} {T : Option TypeId} (h : TyOk w b n T) : TyV w b n 0 T := by
  cases T with
  | none => trivial
  | some T => exact ⟨h, rfl⟩
abbrev Store := List AObj
def AObj.live : AObj → Bool
  | .dead => false
  | _ => true
def Live (σ : Store) (l : Nat) : Prop := ∃ o, σ[l]? = some o ∧ o.live = true
def Tracked (σ : Store) (g : Ghost) (b : Nat) : Prop := ∃ l, Live σ l ∧ g.base l = some b
def Row (w : World) (b : Nat) (vs : Array Value) : Prop :=
  ∃ T fz, w.heap[b]? = some (.cells vs T fz) ∧ ∀ i, i < vs.size → w.frozen? ⟨b, i, none⟩ = false
def RowE (el : El) (w : World) (b : Nat) (vs : Array Value) : Prop := Row w b vs ∧ (el.ag = true → ∀ i, w.frozen? ⟨b, i, none⟩ = false)
def AObj.Ok (g : Ghost) (w : World) (l : Nat) : AObj → Prop
  | .cellsT T cs => g.ver l = 1 ∧ cs.all AV.scalar = true ∧ ∃ b vs, g.base l = some b ∧ Row w b vs ∧ vs.size = cs.length ∧
      (∀ i, i < cs.length → VR g w (cs.getD i .undef) (vs.getD i Go.undef)) ∧ TyOk w b cs.length T
  | .vecT T el xs => g.ver l = xs.length ∧ (∀ i, i < xs.length → (xs.getD i .undef).fits el = true) ∧
      ((xs = [] ∧ g.base l = none ∧ g.cap l = 0 ∧ g.off l = 0) ∨
        ∃ b vs, g.base l = some b ∧ RowE el w b vs ∧ vs.size = g.off l + g.cap l * el.sz ∧ xs.length ≤ g.cap l ∧
          (∀ i c, i < xs.length → c < el.sz → VR g w ((xs.getD i .undef).cell c) (vs.getD (g.off l + i * el.sz + c) Go.undef)) ∧ TyV w b vs.size (g.off l) T)
  | .siter s pos => g.ver l = 1 ∧ ∃ b, g.base l = some b ∧ w.heap[b]? = some (.stringIter ⟨s.toArray⟩ pos)
  | .map es => g.ver l = 0 ∧ ∃ b ms clock, g.base l = some b ∧ w.heap[b]? = some (.map ms clock) ∧ ms.size = es.length ∧ (clock = es.length ∧ ∀ i, i < es.length → (ms.getD i default).born = i) ∧
      ∀ i, i < es.length → VR g w (es.getD i default).1 (ms.getD i default).key ∧ VR g w (es.getD i default).2 (ms.getD i default).val
  | .loop nt e ps ca cb st pe => g.ver l = 0 ∧ ∃ b rec, g.base l = some b ∧ w.heap[b]? = some (.loop rec) ∧ rec.params = ps ∧ rec.assign = ca ∧ rec.body = cb ∧ rec.state = st ∧ rec.pending = pe ∧
      rec.tmps.size = nt ∧ ∀ t, t < nt → VR g w (e t) (rec.tmps.getD t Go.undef)
  | .dead => True
  | .resv => g.ver l = 0 ∧ g.base l = none ∧ g.cap l = 0 ∧ g.off l = 0
def GlobR (g : Ghost) (w : World) : Prop := (∀ b ∈ Globs, g.imm b) ∧ GlobOk w
theorem GlobR.mono {g g' : Ghost} {w w' : World} (h : GlobR g w) (hm : ∀ b, g.imm b → g'.imm b ∧ w'.heap[b]? = w.heap[b]?) : GlobR g' w' :=
  ⟨fun b hb => (hm b (h.1 b hb)).1, h.2.of_heap fun b hb => (hm b (h.1 b hb)).2⟩
structure Rel (g : Ghost) (w : World) (σ : Store) : Prop where
  len : σ.length = g.n
  lt : ∀ b, g.imm b → b < w.heap.size
  ok : ∀ (l : Nat) (o : AObj), σ[l]? = some o → o.Ok g w l
  inj : ∀ l l' b, Live σ l → Live σ l' → g.base l = some b → g.base l' = some b → l = l'
  dis : ∀ l b, Live σ l → g.base l = some b → ¬ g.imm b
  glob : GlobR g w
structure Evo (σ : Store) (g : Ghost) (w : World) (σ' : Store) (g' : Ghost) (w' : World) : Prop where
  mono : Mono g w g' w'
  size : w.heap.size ≤ w'.heap.size
  os : w'.os = w.os
  tape : w'.tape = w.tape
  output : w'.output = w.output
  frame : ∀ b, b < w.heap.size → ¬ Tracked σ g b → w'.heap[b]? = w.heap[b]?
  immold : ∀ b, b < w.heap.size → g'.imm b → g.imm b ∨ Tracked σ g b
  trk : ∀ b, b < w.heap.size → Tracked σ' g' b → Tracked σ g b
theorem Evo.refl (σ : Store) (g : Ghost) (w : World) : Evo σ g w σ g w :=
  ⟨.refl _ _, Nat.le_refl _, rfl, rfl, rfl, fun _ _ _ => rfl, fun _ _ h => .inl h, fun _ _ h => h⟩
theorem Evo.trans {σ1 σ2 σ3 : Store} {g1 g2 g3 : Ghost} {w1 w2 w3 : World} (h : Evo σ1 g1 w1 σ2 g2 w2) (k : Evo σ2 g2 w2 σ3 g3 w3) : Evo σ1 g1 w1 σ3 g3 w3 := by
  refine ⟨h.mono.trans k.mono, Nat.le_trans h.size k.size, k.os.trans h.os, k.tape.trans h.tape, k.output.trans h.output, fun b hb ht => ?_, fun b hb hi => ?_, fun b hb ht => ?_⟩
  · rw [k.frame b (Nat.lt_of_lt_of_le hb h.size) (fun t => ht (h.trk b hb t)), h.frame b hb ht]
  · rcases k.immold b (Nat.lt_of_lt_of_le hb h.size) hi with h1 | h1
    · exact h.immold b hb h1
    · exact .inr (h.trk b hb h1)
  · exact h.trk b hb (k.trk b (Nat.lt_of_lt_of_le hb h.size) ht)
theorem Evo.drew (σ : Store) (g : Ghost) (w : World) (d : Nat) : Evo σ g w σ g { w with drawn := d } :=
  ⟨⟨fun _ h => ⟨h, rfl⟩, Nat.le_refl _, fun _ _ => ⟨Nat.le_refl _, fun _ => ⟨rfl, rfl, rfl⟩⟩⟩, Nat.le_refl _, rfl, rfl, rfl, fun _ _ _ => rfl, fun _ _ h => .inl h, fun _ _ h => h⟩
theorem Row.lt {w : World} {b : Nat} {vs : Array Value} (h : Row w b vs) : b < w.heap.size := by
  obtain ⟨T, fz, h, _⟩ := h
  exact (Array.getElem?_eq_some_iff.1 h).1
theorem Row.of_heap {w w' : World} {b : Nat} {vs : Array Value} (h : Row w b vs) (he : w'.heap[b]? = w.heap[b]?) : Row w' b vs := by
  obtain ⟨T, fz, h, hf⟩ := h
  exact ⟨T, fz, he.trans h, fun i hi => (frozen?_of_heap he i none).trans (hf i hi)⟩
theorem Row.cell {w : World} {b : Nat} {vs : Array Value} (h : Row w b vs) {i : Nat} (hi : i < vs.size) : w.cell? ⟨b, i, none⟩ = some (vs.getD i Go.undef) := by
  obtain ⟨T, fz, h, _⟩ := h
  simp [World.cell?, h, hi]
theorem RowE.lt {el : El} {w : World} {b : Nat} {vs : Array Value} (h : RowE el w b vs) : b < w.heap.size := h.1.lt
theorem RowE.of_heap {el : El} {w w' : World} {b : Nat} {vs : Array Value} (h : RowE el w b vs) (he : w'.heap[b]? = w.heap[b]?) : RowE el w' b vs :=
  ⟨h.1.of_heap he, fun e i => (frozen?_of_heap he i none).trans (h.2 e i)⟩
theorem RowE.cell {el : El} {w : World} {b : Nat} {vs : Array Value} (h : RowE el w b vs) {i : Nat} (hi : i < vs.size) : w.cell? ⟨b, i, none⟩ = some (vs.getD i Go.undef) := h.1.cell hi
theorem AObj.Ok.step {g g' : Ghost} {w w' : World} {l : Nat} {o : AObj} (h : o.Ok g w l) (hm : Mono g w g' w') (hl : l < g.n)
    (hv : g'.ver l = g.ver l) (hb : ∀ b, g.base l = some b → w'.heap[b]? = w.heap[b]?) : o.Ok g' w' l := by
  obtain ⟨e1, e2, e3⟩ := (hm.ver l hl).2 hv
  cases o with
  | cellsT T cs =>
    obtain ⟨h1, hs, b, vs, h2, h3, h4, h5, h6⟩ := h
    exact ⟨hv.trans h1, hs, b, vs, e1.trans h2, h3.of_heap (hb b h2), h4, fun i hi => (h5 i hi).mono hm, h6.of_heap (hb b h2)⟩
  | vecT T el xs =>
    obtain ⟨h1, hf, h2⟩ := h
    refine ⟨hv.trans h1, hf, ?_⟩
    rcases h2 with ⟨h2, h3, h4⟩ | ⟨b, vs, h2, h3, h4, h5, h6, h7⟩
    · exact .inl ⟨h2, e1.trans h3, e2.trans h4.1, e3.trans h4.2⟩
    · exact .inr ⟨b, vs, e1.trans h2, h3.of_heap (hb b h2), by rw [e2, e3]; exact h4, by rw [e2]; exact h5, fun i c hi hc => by rw [e3]; exact (h6 i c hi hc).mono hm, by rw [e3]; exact h7.of_heap (hb b h2)⟩
  | siter s pos =>
    obtain ⟨h1, b, h2, h3⟩ := h
    exact ⟨hv.trans h1, b, e1.trans h2, (hb b h2).trans h3⟩
  | map es =>
    obtain ⟨h1, b, ms, clock, h2, h3, h4, h6, h5⟩ := h
    exact ⟨hv.trans h1, b, ms, clock, e1.trans h2, (hb b h2).trans h3, h4, h6, fun i hi => ⟨(h5 i hi).1.mono hm, (h5 i hi).2.mono hm⟩⟩
  | loop nt e ps ca cb st pe =>
    obtain ⟨h1, b, rec, h2, h3, h4, h5, h6, h7, h8, h9, h10⟩ := h
    exact ⟨hv.trans h1, b, rec, e1.trans h2, (hb b h2).trans h3, h4, h5, h6, h7, h8, h9, fun t ht => (h10 t ht).mono hm⟩
  | dead => trivial
  | resv => exact ⟨hv.trans h.1, e1.trans h.2.1, e2.trans h.2.2.1, e3.trans h.2.2.2⟩
theorem Rel.base_lt {g : Ghost} {w : World} {σ : Store} (h : Rel g w σ) {l b : Nat} (hl : Live σ l) (hb : g.base l = some b) : b < w.heap.size := by
  obtain ⟨o, ho, hv⟩ := hl
  have := h.ok l o ho
  cases o with
  | cellsT T cs => obtain ⟨_, _, b', vs, h2, h3, _⟩ := this; rw [hb] at h2; cases h2; exact h3.lt
  | vecT T el xs =>
    obtain ⟨_, _, h2⟩ := this
    rcases h2 with ⟨_, h3, _⟩ | ⟨b', vs, h2, h3, _⟩
    · rw [hb] at h3; cases h3
    · rw [hb] at h2; cases h2; exact h3.lt
  | siter s pos => obtain ⟨_, b', h2, h3⟩ := this; rw [hb] at h2; cases h2; exact (Array.getElem?_eq_some_iff.1 h3).1
  | map es => obtain ⟨_, b', _, _, h2, h3, _⟩ := this; rw [hb] at h2; cases h2; exact (Array.getElem?_eq_some_iff.1 h3).1
  | loop nt e ps ca cb st pe => obtain ⟨_, b', _, h2, h3, _⟩ := this; rw [hb] at h2; cases h2; exact (Array.getElem?_eq_some_iff.1 h3).1
  | dead => simp [AObj.live] at hv
  | resv => rw [this.2.1] at hb; cases hb
theorem Rel.tracked_lt {g : Ghost} {w : World} {σ : Store} (h : Rel g w σ) {b : Nat} (ht : Tracked σ g b) : b < w.heap.size :=
  let ⟨_, hl, hb⟩ := ht; h.base_lt hl hb
theorem Live.lt {σ : Store} {l : Nat} (h : Live σ l) : l < σ.length := by
  obtain ⟨o, ho, _⟩ := h
  exact (List.getElem?_eq_some_iff.1 ho).1
theorem heap_alloc_old (w : World) (o : Obj) {b : Nat} (h : b < w.heap.size) : (w.alloc o).heap[b]? = w.heap[b]? := by
  exact Go.RowKit.Below.heap_alloc w o b h
theorem heap_alloc_new (w : World) (o : Obj) : (w.alloc o).heap[w.heap.size]? = some o := by
  show (w.heap.push o)[w.heap.size]? = _
  simp
theorem Rel.drew {g : Ghost} {w : World} {σ : Store} (h : Rel g w σ) (d : Nat) : Rel g { w with drawn := d } σ :=
  ⟨h.len, h.lt, fun l o ho => (h.ok l o ho).step (Evo.drew σ g w d).mono (by rw [← h.len]; exact (List.getElem?_eq_some_iff.1 ho).1) rfl (fun _ _ => rfl), h.inj, h.dis, h.glob.mono fun _ hb => ⟨hb, rfl⟩⟩
def Ghost.addImm (g : Ghost) (b : Nat) : Ghost := { g with imm := fun c => g.imm c ∨ c = b }
def Ghost.push (g : Ghost) (v : Nat) (b : Option Nat) (c : Nat) (o : Nat := 0) : Ghost :=
  { g with n := g.n + 1, off := fun l => if l = g.n then o else g.off l, ver := fun l => if l = g.n then v else g.ver l, base := fun l => if l = g.n then b else g.base l, cap := fun l => if l = g.n then c else g.cap l }
theorem alloc_mono_imm (g : Ghost) (w : World) (o : Obj) (hlt : ∀ b, g.imm b → b < w.heap.size) : Mono g w (g.addImm w.heap.size) (w.alloc o) :=
  ⟨fun b h => ⟨.inl h, heap_alloc_old w o (hlt b h)⟩, Nat.le_refl _, fun _ _ => ⟨Nat.le_refl _, fun _ => ⟨rfl, rfl, rfl⟩⟩⟩
theorem alloc_mono_push (g : Ghost) (w : World) (o : Obj) (v : Nat) (b : Option Nat) (c : Nat) (hlt : ∀ b, g.imm b → b < w.heap.size) : Mono g w (g.push v b c) (w.alloc o) :=
  ⟨fun b h => ⟨h, heap_alloc_old w o (hlt b h)⟩, Nat.le_succ _, fun l hl => by
    have : l ≠ g.n := Nat.ne_of_lt hl
    simp [Ghost.push, this]⟩
theorem Rel.allocImm {g : Ghost} {w : World} {σ : Store} (h : Rel g w σ) (o : Obj) : Rel (g.addImm w.heap.size) (w.alloc o) σ ∧ Evo σ g w σ (g.addImm w.heap.size) (w.alloc o) := by
  have hm := alloc_mono_imm g w o h.lt
  refine ⟨⟨h.len, fun b hb => ?_, fun l o' ho => ?_, h.inj, fun l b hl hb hi => ?_, h.glob.mono hm.imm⟩, ⟨hm, by simp, rfl, rfl, rfl, fun b hb _ => heap_alloc_old w o hb, fun b hb hi => ?_, fun b _ ht => ht⟩⟩
  · rcases hb with hb | rfl
    · have := h.lt b hb; simp; omega
    · simp
  · have hl : l < g.n := by rw [← h.len]; exact (List.getElem?_eq_some_iff.1 ho).1
    by_cases hv : o'.live = true
    · exact (h.ok l o' ho).step hm hl rfl (fun b hb => heap_alloc_old w o (h.base_lt ⟨o', ho, hv⟩ hb))
    · cases o' <;> simp [AObj.live] at hv
      trivial
  · rcases hi with hi | rfl
    · exact h.dis l b hl hb hi
    · exact absurd (h.base_lt hl hb) (Nat.lt_irrefl _)
  · rcases hi with hi | rfl
    · exact .inl hi
    · exact absurd hb (Nat.lt_irrefl _)
theorem live_append {σ : Store} {o : AObj} {l : Nat} (h : Live (σ ++ [o]) l) : Live σ l ∨ l = σ.length := by
  obtain ⟨o', ho, hv⟩ := h
  by_cases hl : l < σ.length
  · exact .inl ⟨o', by rwa [List.getElem?_append_left hl] at ho, hv⟩
  · have := (List.getElem?_eq_some_iff.1 ho).1
    simp at this
    exact .inr (by omega)
theorem Rel.allocRaw {g : Ghost} {w : World} {σ : Store} (h : Rel g w σ) (o : Obj) : Rel g (w.alloc o) σ ∧ Evo σ g w σ g (w.alloc o) := by
  have hm : Mono g w g (w.alloc o) := ⟨fun b hb => ⟨hb, heap_alloc_old w o (h.lt b hb)⟩, Nat.le_refl _, fun _ _ => ⟨Nat.le_refl _, fun _ => ⟨rfl, rfl, rfl⟩⟩⟩
  refine ⟨⟨h.len, fun b hb => by have := h.lt b hb; simp; omega, fun l o' ho => ?_, h.inj, h.dis, h.glob.mono hm.imm⟩,
    ⟨hm, by simp, rfl, rfl, rfl, fun b hb _ => heap_alloc_old w o hb, fun b hb hi => .inl hi, fun b hb ht => ht⟩⟩
  have hl : l < g.n := by rw [← h.len]; exact (List.getElem?_eq_some_iff.1 ho).1
  by_cases hv : o'.live = true
  · exact (h.ok l o' ho).step hm hl rfl (fun b hb => heap_alloc_old w o (h.base_lt ⟨o', ho, hv⟩ hb))
  · cases o' <;> simp [AObj.live] at hv
    trivial
theorem Rel.putRaw {g0 g : Ghost} {w0 w w' : World} {σ0 σ : Store} {D : Nat} (h : Rel g w σ) (hev : Evo σ0 g0 w0 σ g w) (hD : w0.heap.size ≤ D) (ht : ¬ Tracked σ g D) (hi : ¬ g.imm D)
    (hsz : w'.heap.size = w.heap.size) (hos : w'.os = w.os) (htape : w'.tape = w.tape) (hout : w'.output = w.output) (hheap : ∀ c, c ≠ D → w'.heap[c]? = w.heap[c]?) :
    Rel g w' σ ∧ Evo σ0 g0 w0 σ g w' ∧ Mono g w g w' := by
  have hm : Mono g w g w' := ⟨fun b hb => ⟨hb, hheap b (fun e => hi (e ▸ hb))⟩, Nat.le_refl _, fun _ _ => ⟨Nat.le_refl _, fun _ => ⟨rfl, rfl, rfl⟩⟩⟩
  refine ⟨⟨h.len, fun b hb => by rw [hsz]; exact h.lt b hb, fun l o' ho => ?_, h.inj, h.dis, h.glob.mono hm.imm⟩,
    ⟨hev.mono.trans hm, by rw [hsz]; exact hev.size, hos.trans hev.os, htape.trans hev.tape, hout.trans hev.output, fun b hb hnt => (hheap b (by omega)).trans (hev.frame b hb hnt), hev.immold, hev.trk⟩, hm⟩
  have hl : l < g.n := by rw [← h.len]; exact (List.getElem?_eq_some_iff.1 ho).1
  by_cases hv : o'.live = true
  · exact (h.ok l o' ho).step hm hl rfl (fun b hb => hheap b (fun e => ht ⟨l, ⟨o', ho, hv⟩, e ▸ hb⟩))
  · cases o' <;> simp [AObj.live] at hv
    trivial
theorem Rel.allocObj {g : Ghost} {w : World} {σ : Store} (h : Rel g w σ) (o : Obj) (ao : AObj) (v c : Nat)
    (hok : ao.Ok (g.push v (some w.heap.size) c) (w.alloc o) g.n) :
    Rel (g.push v (some w.heap.size) c) (w.alloc o) (σ ++ [ao]) ∧ Evo σ g w (σ ++ [ao]) (g.push v (some w.heap.size) c) (w.alloc o) := by
  have hm := alloc_mono_push g w o v (some w.heap.size) c h.lt
  have hbase : ∀ l, l < g.n → (g.push v (some w.heap.size) c).base l = g.base l := fun l hl => by simp [Ghost.push, Nat.ne_of_lt hl]
  have hnew : (g.push v (some w.heap.size) c).base g.n = some w.heap.size := by simp [Ghost.push]
  have hold : ∀ l b, Live σ l → (g.push v (some w.heap.size) c).base l = some b → g.base l = some b ∧ b < w.heap.size := fun l b hl hb => by
    rw [hbase l (by rw [← h.len]; exact hl.lt)] at hb
    exact ⟨hb, h.base_lt hl hb⟩
  refine ⟨⟨by simp [Ghost.push, h.len], fun b hb => by have := h.lt b hb; simp; omega, fun l o' ho => ?_, fun l l' b hl hl' hb hb' => ?_, fun l b hl hb hi => ?_, h.glob.mono hm.imm⟩,
    ⟨hm, by simp, rfl, rfl, rfl, fun b hb _ => heap_alloc_old w o hb, fun b hb hi => .inl hi, fun b hb ht => ?_⟩⟩
  · by_cases hl : l < σ.length
    · rw [List.getElem?_append_left hl] at ho
      have hl' : l < g.n := by rw [← h.len]; exact hl
      by_cases hv : o'.live = true
      · refine (h.ok l o' ho).step hm hl' (by simp [Ghost.push, Nat.ne_of_lt hl']) (fun b hb => heap_alloc_old w o (h.base_lt ⟨o', ho, hv⟩ hb))
      · cases o' <;> simp [AObj.live] at hv
        trivial
    · have h1 := (List.getElem?_eq_some_iff.1 ho).1
      simp at h1
      have h2 : l = σ.length := by omega
      subst h2
      simp at ho
      subst ho
      rw [h.len]; exact hok
  · rcases live_append hl with hl | rfl <;> rcases live_append hl' with hl' | rfl
    · exact h.inj l l' b hl hl' (hold l b hl hb).1 (hold l' b hl' hb').1
    · have := (hold l b hl hb).2
      rw [h.len, hnew] at hb'
      cases hb'
      exact absurd this (Nat.lt_irrefl _)
    · have := (hold l' b hl' hb').2
      rw [h.len, hnew] at hb
      cases hb
      exact absurd this (Nat.lt_irrefl _)
    · rfl
  · rcases live_append hl with hl | rfl
    · exact h.dis l b hl (hold l b hl hb).1 hi
    · rw [h.len, hnew] at hb
      cases hb
      exact absurd (h.lt _ hi) (Nat.lt_irrefl _)
  · obtain ⟨l, hl, hb'⟩ := ht
    rcases live_append hl with hl | rfl
    · exact ⟨l, hl, (hold l b hl hb').1⟩
    · rw [h.len, hnew] at hb'
      cases hb'
      exact absurd hb (Nat.lt_irrefl _)
end Go.AM
namespace Go.AM
def Ghost.reset (g : Ghost) (l v : Nat) (b : Option Nat) (c : Nat) (o : Nat := 0) : Ghost :=
  { g with off := fun k => if k = l then o else g.off k, ver := fun k => if k = l then v else g.ver k, base := fun k => if k = l then b else g.base k, cap := fun k => if k = l then c else g.cap k }
theorem live_set {σ : Store} {l k : Nat} {o : AObj} (h : Live (σ.set l o) k) : (k = l ∧ l < σ.length ∧ o.live = true) ∨ (k ≠ l ∧ Live σ k) := by
  obtain ⟨o', ho, hv⟩ := h
  by_cases hk : k = l
  · subst hk
    have hlt := (List.getElem?_eq_some_iff.1 ho).1
    simp at hlt
    simp [hlt] at ho
    exact .inl ⟨rfl, hlt, ho ▸ hv⟩
  · rw [List.getElem?_set_ne (Ne.symm hk)] at ho
    exact .inr ⟨hk, o', ho, hv⟩
theorem Rel.change {g : Ghost} {w w' : World} {σ : Store} {l : Nat} {o o' : AObj} (h : Rel g w σ) (hl : σ[l]? = some o) (ho : o.live = true)
    (v : Nat) (nb : Option Nat) (c : Nat) (fo : Nat) (hv : g.ver l ≤ v) (hvb : v = g.ver l → nb = g.base l ∧ c = g.cap l ∧ fo = g.off l)
    (hsz : w.heap.size ≤ w'.heap.size) (hos : w'.os = w.os) (htape : w'.tape = w.tape) (hout : w'.output = w.output)
    (hheap : ∀ b, b < w.heap.size → g.base l ≠ some b → w'.heap[b]? = w.heap[b]?)
    (hnb : ∀ b, nb = some b → g.base l = some b ∨ w.heap.size ≤ b)
    (hok : Mono g w (g.reset l v nb c fo) w' → o'.Ok (g.reset l v nb c fo) w' l) :
    Rel (g.reset l v nb c fo) w' (σ.set l o') ∧ Evo σ g w (σ.set l o') (g.reset l v nb c fo) w' := by
  have hlive : Live σ l := ⟨o, hl, ho⟩
  have hbase : ∀ k, k ≠ l → (g.reset l v nb c fo).base k = g.base k := fun k hk => by simp [Ghost.reset, hk]
  have hself : (g.reset l v nb c fo).base l = nb := by simp [Ghost.reset]
  have hm : Mono g w (g.reset l v nb c fo) w' := by
    refine ⟨fun b hb => ⟨hb, hheap b (h.lt b hb) (fun e => h.dis l b hlive e hb)⟩, Nat.le_refl _, fun k _ => ?_⟩
    by_cases hk : k = l
    · subst hk
      simp only [Ghost.reset, if_true]
      exact ⟨hv, hvb⟩
    · simp [Ghost.reset, hk]
  refine ⟨⟨by simp [Ghost.reset, h.len], fun b hb => Nat.lt_of_lt_of_le (h.lt b hb) hsz, fun k ok hk => ?_, fun k k' b hk hk' hb hb' => ?_, fun k b hk hb hi => ?_, h.glob.mono hm.imm⟩,
    ⟨hm, hsz, hos, htape, hout, fun b hb ht => hheap b hb (fun e => ht ⟨l, hlive, e⟩), fun b _ hi => .inl hi, fun b hb ht => ?_⟩⟩
  · by_cases e : k = l
    · subst e
      have hlt := (List.getElem?_eq_some_iff.1 hk).1
      simp at hlt
      simp [hlt] at hk
      subst hk
      exact hok hm
    · rw [List.getElem?_set_ne (Ne.symm e)] at hk
      have hkn : k < g.n := by rw [← h.len]; exact (List.getElem?_eq_some_iff.1 hk).1
      by_cases hvk : ok.live = true
      · refine (h.ok k ok hk).step hm hkn (by simp [Ghost.reset, e]) (fun b hb => hheap b (h.base_lt ⟨ok, hk, hvk⟩ hb) (fun e' => e (h.inj k l b ⟨ok, hk, hvk⟩ hlive hb e')))
      · cases ok <;> simp [AObj.live] at hvk
        trivial
  · rcases live_set hk with ⟨e, _, _⟩ | ⟨e, hk2⟩ <;> rcases live_set hk' with ⟨e', _, _⟩ | ⟨e', hk2'⟩
    · exact e.trans e'.symm
    · subst e
      rw [hself] at hb; rw [hbase k' e'] at hb'
      rcases hnb b hb with h1 | h1
      · exact h.inj _ _ b hlive hk2' h1 hb'
      · have := h.base_lt hk2' hb'; omega
    · subst e'
      rw [hself] at hb'; rw [hbase k e] at hb
      rcases hnb b hb' with h1 | h1
      · exact h.inj _ _ b hk2 hlive hb h1
      · have := h.base_lt hk2 hb; omega
    · rw [hbase k e] at hb; rw [hbase k' e'] at hb'
      exact h.inj k k' b hk2 hk2' hb hb'
  · rcases live_set hk with ⟨rfl, _, _⟩ | ⟨e, hk⟩
    · rw [hself] at hb
      rcases hnb b hb with h1 | h1
      · exact h.dis _ b hlive h1 hi
      · have := h.lt b hi; omega
    · rw [hbase k e] at hb; exact h.dis k b hk hb hi
  · obtain ⟨k, hk, hb'⟩ := ht
    rcases live_set hk with ⟨rfl, _, _⟩ | ⟨e, hk⟩
    · rw [hself] at hb'
      rcases hnb b hb' with h1 | h1
      · exact ⟨_, hlive, h1⟩
      · omega
    · exact ⟨k, hk, by rw [hbase k e] at hb'; exact hb'⟩
theorem Ghost.reset_self (g : Ghost) (l : Nat) : g.reset l (g.ver l) (g.base l) (g.cap l) (g.off l) = g := by
  simp only [Ghost.reset]
  congr 1 <;> (funext k; split <;> simp_all)
theorem Rel.update {g : Ghost} {w w' : World} {σ : Store} {l b : Nat} {o o' : AObj} (h : Rel g w σ) (hl : σ[l]? = some o) (ho : o.live = true) (hb : g.base l = some b)
    (hsz : w'.heap.size = w.heap.size) (hos : w'.os = w.os) (htape : w'.tape = w.tape) (hout : w'.output = w.output)
    (hheap : ∀ c, c ≠ b → w'.heap[c]? = w.heap[c]?) (hok : Mono g w g w' → o'.Ok g w' l) :
    Rel g w' (σ.set l o') ∧ Evo σ g w (σ.set l o') g w' := by
  have := Rel.change (o' := o') (w' := w') h hl ho (g.ver l) (g.base l) (g.cap l) (g.off l) (Nat.le_refl _) (fun _ => ⟨rfl, rfl, rfl⟩) (Nat.le_of_eq hsz.symm) hos htape hout
    (fun c _ hc => hheap c (fun e => hc (e ▸ hb))) (fun c hc => .inl hc)
  rw [g.reset_self l] at this
  exact this hok
theorem Rel.freeze {g : Ghost} {w : World} {σ : Store} {l b : Nat} {o : AObj} (h : Rel g w σ) (hl : σ[l]? = some o) (ho : o.live = true) (hb : g.base l = some b) :
    Rel (g.addImm b) w (σ.set l .dead) ∧ Evo σ g w (σ.set l .dead) (g.addImm b) w := by
  have hlive : Live σ l := ⟨o, hl, ho⟩
  have hm : Mono g w (g.addImm b) w := ⟨fun c hc => ⟨.inl hc, rfl⟩, Nat.le_refl _, fun _ _ => ⟨Nat.le_refl _, fun _ => ⟨rfl, rfl, rfl⟩⟩⟩
  refine ⟨⟨by simp [Ghost.addImm, h.len], fun c hc => ?_, fun k ok hk => ?_, fun k k' c hk hk' hc hc' => ?_, fun k c hk hc hi => ?_, h.glob.mono hm.imm⟩,
    ⟨hm, Nat.le_refl _, rfl, rfl, rfl, fun _ _ _ => rfl, fun c _ hi => ?_, fun c _ ht => ?_⟩⟩
  · rcases hc with hc | rfl
    · exact h.lt c hc
    · exact h.base_lt hlive hb
  · by_cases e : k = l
    · subst e
      have hlt := (List.getElem?_eq_some_iff.1 hk).1
      simp at hlt
      simp [hlt] at hk
      subst hk
      trivial
    · rw [List.getElem?_set_ne (Ne.symm e)] at hk
      have hkn : k < g.n := by rw [← h.len]; exact (List.getElem?_eq_some_iff.1 hk).1
      exact (h.ok k ok hk).step hm hkn rfl (fun _ _ => rfl)
  · rcases live_set hk with ⟨_, _, e⟩ | ⟨_, hk⟩
    · simp [AObj.live] at e
    · rcases live_set hk' with ⟨_, _, e⟩ | ⟨_, hk'⟩
      · simp [AObj.live] at e
      · exact h.inj k k' c hk hk' hc hc'
  · rcases live_set hk with ⟨_, _, e⟩ | ⟨e, hk⟩
    · simp [AObj.live] at e
    · rcases hi with hi | rfl
      · exact h.dis k c hk hc hi
      · exact e (h.inj k l c hk hlive hc hb)
  · rcases hi with hi | rfl
    · exact .inl hi
    · exact .inr ⟨l, hlive, hb⟩
  · obtain ⟨k, hk, hc⟩ := ht
    rcases live_set hk with ⟨_, _, e⟩ | ⟨_, hk⟩
    · simp [AObj.live] at e
    · exact ⟨k, hk, hc⟩
theorem Rel.mkvec {g : Ghost} {w : World} {σ : Store} (h : Rel g w σ) (el : El) :
    Rel (g.push 0 none 0) w (σ ++ [.vec el []]) ∧ Evo σ g w (σ ++ [.vec el []]) (g.push 0 none 0) w := by
  have hm : Mono g w (g.push 0 none 0) w := ⟨fun b hb => ⟨hb, rfl⟩, Nat.le_succ _, fun l hl => by simp [Ghost.push, Nat.ne_of_lt hl]⟩
  have hbase : ∀ l, l < g.n → (g.push 0 none 0).base l = g.base l := fun l hl => by simp [Ghost.push, Nat.ne_of_lt hl]
  have hnew : (g.push 0 none 0).base g.n = none := by simp [Ghost.push]
  have hold : ∀ l b, Live (σ ++ [.vec el []]) l → (g.push 0 none 0).base l = some b → Live σ l ∧ g.base l = some b := fun l b hl hb => by
    rcases live_append hl with hl | rfl
    · rw [hbase l (by rw [← h.len]; exact hl.lt)] at hb
      exact ⟨hl, hb⟩
    · rw [h.len, hnew] at hb; cases hb
  refine ⟨⟨by simp [Ghost.push, h.len], h.lt, fun l o' ho => ?_, fun l l' b hl hl' hb hb' => h.inj l l' b (hold l b hl hb).1 (hold l' b hl' hb').1 (hold l b hl hb).2 (hold l' b hl' hb').2,
      fun l b hl hb hi => h.dis l b (hold l b hl hb).1 (hold l b hl hb).2 hi, h.glob.mono hm.imm⟩,
    ⟨hm, Nat.le_refl _, rfl, rfl, rfl, fun _ _ _ => rfl, fun b hb hi => .inl hi, fun b hb ht => ?_⟩⟩
  · by_cases hl : l < σ.length
    · rw [List.getElem?_append_left hl] at ho
      have hl' : l < g.n := by rw [← h.len]; exact hl
      exact (h.ok l o' ho).step hm hl' (by simp [Ghost.push, Nat.ne_of_lt hl']) (fun _ _ => rfl)
    · have h1 := (List.getElem?_eq_some_iff.1 ho).1
      simp at h1
      have h2 : l = σ.length := by omega
      subst h2
      simp at ho
      subst ho
      rw [h.len]
      exact ⟨by simp [Ghost.push], by simp, .inl ⟨rfl, hnew, by simp [Ghost.push]⟩⟩
  · obtain ⟨l, hl, hb'⟩ := ht
    exact ⟨l, (hold l b hl hb').1, (hold l b hl hb').2⟩
theorem Rel.hold {g : Ghost} {w : World} {σ : Store} (h : Rel g w σ) :
    Rel (g.push 0 none 0) w (σ ++ [.resv]) ∧ Evo σ g w (σ ++ [.resv]) (g.push 0 none 0) w := by
  have hm : Mono g w (g.push 0 none 0) w := ⟨fun b hb => ⟨hb, rfl⟩, Nat.le_succ _, fun l hl => by simp [Ghost.push, Nat.ne_of_lt hl]⟩
  have hbase : ∀ l, l < g.n → (g.push 0 none 0).base l = g.base l := fun l hl => by simp [Ghost.push, Nat.ne_of_lt hl]
  have hnew : (g.push 0 none 0).base g.n = none := by simp [Ghost.push]
  have hold : ∀ l b, Live (σ ++ [.resv]) l → (g.push 0 none 0).base l = some b → Live σ l ∧ g.base l = some b := fun l b hl hb => by
    rcases live_append hl with hl | rfl
    · rw [hbase l (by rw [← h.len]; exact hl.lt)] at hb
      exact ⟨hl, hb⟩
    · rw [h.len, hnew] at hb; cases hb
  refine ⟨⟨by simp [Ghost.push, h.len], h.lt, fun l o' ho => ?_, fun l l' b hl hl' hb hb' => h.inj l l' b (hold l b hl hb).1 (hold l' b hl' hb').1 (hold l b hl hb).2 (hold l' b hl' hb').2,
      fun l b hl hb hi => h.dis l b (hold l b hl hb).1 (hold l b hl hb).2 hi, h.glob.mono hm.imm⟩,
    ⟨hm, Nat.le_refl _, rfl, rfl, rfl, fun _ _ _ => rfl, fun b hb hi => .inl hi, fun b hb ht => ?_⟩⟩
  · by_cases hl : l < σ.length
    · rw [List.getElem?_append_left hl] at ho
      have hl' : l < g.n := by rw [← h.len]; exact hl
      exact (h.ok l o' ho).step hm hl' (by simp [Ghost.push, Nat.ne_of_lt hl']) (fun _ _ => rfl)
    · have h1 := (List.getElem?_eq_some_iff.1 ho).1
      simp at h1
      have h2 : l = σ.length := by omega
      subst h2
      simp at ho
      subst ho
      rw [h.len]
      exact ⟨by simp [Ghost.push], hnew, by simp [Ghost.push]⟩
  · obtain ⟨l, hl, hb'⟩ := ht
    exact ⟨l, (hold l b hl hb').1, (hold l b hl hb').2⟩
theorem Rel.holdVec {g : Ghost} {w : World} {σ : Store} (h : Rel g w σ) {n : Nat} (hn : σ[n]? = some .resv) (T : Option TypeId) (el : El) :
    Rel g w (σ.set n (.vecT T el [])) ∧ Evo σ g w (σ.set n (.vecT T el [])) g w := by
  obtain ⟨h1, h2, h3⟩ := h.ok n _ hn
  have := h.change (w' := w) (o' := .vecT T el []) hn rfl (g.ver n) (g.base n) (g.cap n) (g.off n) (Nat.le_refl _) (fun _ => ⟨rfl, rfl, rfl⟩) (Nat.le_refl _) rfl rfl rfl (fun _ _ _ => rfl) (fun b hb => .inl hb)
    (fun _ => by rw [Ghost.reset_self]; exact ⟨h1, by simp, .inl ⟨rfl, h2, h3⟩⟩)
  rwa [Ghost.reset_self] at this
theorem setCell_heap_ne (w : World) (b i : Nat) (v : Value) {c : Nat} (h : c ≠ b) : (w.setCell ⟨b, i, none⟩ v).heap[c]? = w.heap[c]? :=
  Go.RowKit.Below.heap_setCell w ⟨b, i, none⟩ v c h
theorem Row.set {w : World} {b : Nat} {vs : Array Value} (h : Row w b vs) (i : Nat) (v : Value) : Row (w.setCell ⟨b, i, none⟩ v) b (vs.setIfInBounds i v) := by
  obtain ⟨T, fz, h1, h2⟩ := h
  refine ⟨T, fz, ?_, fun j hj => ?_⟩
  · simp [World.setCell, Array.getElem?_modify, h1]
  · rw [World.frozen?_setCell]
    exact h2 j (by simpa using hj)
def setRow (w : World) (b : Nat) : Nat → List Value → World
  | _, [] => w
  | i, v :: vs => setRow (w.setCell ⟨b, i, none⟩ v) b (i + 1) vs
def putRow (vs : Array Value) : Nat → List Value → Array Value
  | _, [] => vs
  | i, u :: us => putRow (vs.setIfInBounds i u) (i + 1) us
theorem setRow_facts (w : World) (b i : Nat) (us : List Value) : (setRow w b i us).heap.size = w.heap.size ∧ (setRow w b i us).os = w.os ∧ (setRow w b i us).tape = w.tape ∧
    (setRow w b i us).output = w.output ∧ ∀ c, c ≠ b → (setRow w b i us).heap[c]? = w.heap[c]? := by
  induction us generalizing w i with
  | nil => exact ⟨rfl, rfl, rfl, rfl, fun _ _ => rfl⟩
  | cons u us ih =>
    obtain ⟨h1, h2, h3, h4, h5⟩ := ih (w.setCell ⟨b, i, none⟩ u) (i + 1)
    exact ⟨h1.trans (World.size_setCell ..), h2, h3, h4, fun c hc => (h5 c hc).trans (setCell_heap_ne w b i u hc)⟩
theorem Row.setRow {w : World} {b : Nat} {vs : Array Value} (h : Row w b vs) (i : Nat) (us : List Value) : Row (setRow w b i us) b (putRow vs i us) := by
  induction us generalizing w i vs with
  | nil => exact h
  | cons u us ih => exact ih (h.set i u) (i + 1)
theorem frozen_setRow (w : World) (b i : Nat) (us : List Value) (a : Addr) : (setRow w b i us).frozen? a = w.frozen? a := by
  induction us generalizing w i with
  | nil => rfl
  | cons u us ih => exact (ih (w.setCell ⟨b, i, none⟩ u) (i + 1)).trans (World.frozen?_setCell ..)
theorem RowE.setRow {el : El} {w : World} {b : Nat} {vs : Array Value} (h : RowE el w b vs) (i : Nat) (us : List Value) : RowE el (setRow w b i us) b (putRow vs i us) :=
  ⟨h.1.setRow i us, fun e j => (frozen_setRow ..).trans (h.2 e j)⟩
theorem shape_setCell (w : World) (b i : Nat) (v : Value) (c : Nat) : (w.setCell ⟨b, i, none⟩ v).shape? c = w.shape? c := by
  by_cases h : c = b
  · subst h
    simp only [World.shape?, World.setCell, Array.getElem?_modify, if_true]
    cases w.heap[c]? with
    | none => rfl
    | some o => cases o <;> simp
  · simp only [World.shape?, setCell_heap_ne w b i v h]
theorem shape_setRow (w : World) (b i : Nat) (us : List Value) (c : Nat) : (setRow w b i us).shape? c = w.shape? c := by
  induction us generalizing w i with
  | nil => rfl
  | cons u us ih => exact (ih (w.setCell ⟨b, i, none⟩ u) (i + 1)).trans (shape_setCell w b i u c)
theorem size_putRow (vs : Array Value) (i : Nat) (us : List Value) : (putRow vs i us).size = vs.size := by
  induction us generalizing vs i with
  | nil => rfl
  | cons u us ih => simp [putRow, ih]
theorem getD_putRow (vs : Array Value) (i : Nat) (us : List Value) (hi : i + us.length ≤ vs.size) (j : Nat) (d : Value) :
    (putRow vs i us).getD j d = if i ≤ j ∧ j < i + us.length then us.getD (j - i) d else vs.getD j d := by
  induction us generalizing vs i with
  | nil => simp [putRow]; intro h1 h2; omega
  | cons u us ih =>
    simp only [List.length_cons] at hi
    rw [putRow, ih (vs.setIfInBounds i u) (i + 1) (by simp; omega)]
    by_cases h1 : i + 1 ≤ j ∧ j < i + 1 + us.length
    · rw [if_pos h1, if_pos (by simp only [List.length_cons]; omega)]
      obtain ⟨k, rfl⟩ : ∃ k, j = i + 1 + k := ⟨j - (i + 1), by omega⟩
      rw [show i + 1 + k - (i + 1) = k by omega, show i + 1 + k - i = k + 1 by omega]
      simp
    · rw [if_neg h1]
      by_cases h2 : j = i
      · subst h2
        rw [if_pos (by simp only [List.length_cons]; omega)]
        have hlt : j < vs.size := by omega
        simp [hlt]
      · rw [if_neg (by simp only [List.length_cons]; omega)]
        simp [Array.getElem?_setIfInBounds_ne (Ne.symm h2)]
end Go.AM
