/- Steps of the state: an object is turned, moved, frozen, made. No program. -/
import Derived.Test.YtkimohopfhgcjaaABase
namespace Go.AM
set_option linter.unusedSimpArgs false
set_option linter.unusedVariables false
set_option linter.unnecessarySimpa false

def Ghost.reset (g : Ghost) (l v : Nat) (b : Option Nat) (c : Nat) : Ghost :=
  { g with ver := fun k => if k = l then v else g.ver k, base := fun k => if k = l then b else g.base k, cap := fun k => if k = l then c else g.cap k }

theorem live_set {σ : Store} {l k : Nat} {o : AObj} (h : Live (σ.set l o) k) : (k = l ∧ l < σ.length ∧ o.live = true) ∨ (k ≠ l ∧ Live σ k) := by
  obtain ⟨o', ho, hv⟩ := h
  by_cases hk : k = l
  · subst hk
    have hlt := (List.getElem?_eq_some_iff.1 ho).1
    simp at hlt
    simp [hlt] at ho
    exact .inl ⟨rfl, hlt, ho ▸ hv⟩
  · rw [List.getElem?_set_ne (Ne.symm hk)] at ho
    exact .inr ⟨hk, o', ho, hv⟩

/-- An object is turned: its own block alone may have been written, or it has moved to a new one. -/
theorem Rel.change {g : Ghost} {w w' : World} {σ : Store} {l : Nat} {o o' : AObj} (h : Rel g w σ) (hl : σ[l]? = some o) (ho : o.live = true)
    (v : Nat) (nb : Option Nat) (c : Nat) (hv : g.ver l ≤ v) (hvb : v = g.ver l → nb = g.base l ∧ c = g.cap l)
    (hsz : w.heap.size ≤ w'.heap.size) (hos : w'.os = w.os) (htape : w'.tape = w.tape) (hout : w'.output = w.output)
    (hheap : ∀ b, b < w.heap.size → g.base l ≠ some b → w'.heap[b]? = w.heap[b]?)
    (hnb : ∀ b, nb = some b → g.base l = some b ∨ w.heap.size ≤ b)
    (hok : Mono g w (g.reset l v nb c) w' → o'.Ok (g.reset l v nb c) w' l) :
    Rel (g.reset l v nb c) w' (σ.set l o') ∧ Evo σ g w (σ.set l o') (g.reset l v nb c) w' := by
  have hlive : Live σ l := ⟨o, hl, ho⟩
  have hbase : ∀ k, k ≠ l → (g.reset l v nb c).base k = g.base k := fun k hk => by simp [Ghost.reset, hk]
  have hself : (g.reset l v nb c).base l = nb := by simp [Ghost.reset]
  have hm : Mono g w (g.reset l v nb c) w' := by
    refine ⟨fun b hb => ⟨hb, hheap b (h.lt b hb) (fun e => h.dis l b hlive e hb)⟩, Nat.le_refl _, fun k _ => ?_⟩
    by_cases hk : k = l
    · subst hk
      simp only [Ghost.reset, if_true]
      exact ⟨hv, hvb⟩
    · simp [Ghost.reset, hk]
  refine ⟨⟨by simp [Ghost.reset, h.len], fun b hb => Nat.lt_of_lt_of_le (h.lt b hb) hsz, fun k ok hk => ?_, fun k k' b hk hk' hb hb' => ?_, fun k b hk hb hi => ?_, h.glob.mono hm.imm⟩,
    ⟨hm, hsz, hos, htape, hout, fun b hb ht => hheap b hb (fun e => ht ⟨l, hlive, e⟩), fun b _ hi => .inl hi, fun b hb ht => ?_⟩⟩
  · by_cases e : k = l
    · subst e
      have hlt := (List.getElem?_eq_some_iff.1 hk).1
      simp at hlt
      simp [hlt] at hk
      subst hk
      exact hok hm
    · rw [List.getElem?_set_ne (Ne.symm e)] at hk
      have hkn : k < g.n := by rw [← h.len]; exact (List.getElem?_eq_some_iff.1 hk).1
      by_cases hvk : ok.live = true
      · refine (h.ok k ok hk).step hm hkn (by simp [Ghost.reset, e]) (fun b hb => hheap b (h.base_lt ⟨ok, hk, hvk⟩ hb) (fun e' => e (h.inj k l b ⟨ok, hk, hvk⟩ hlive hb e')))
      · cases ok <;> simp [AObj.live] at hvk
        trivial
  · rcases live_set hk with ⟨e, _, _⟩ | ⟨e, hk2⟩ <;> rcases live_set hk' with ⟨e', _, _⟩ | ⟨e', hk2'⟩
    · exact e.trans e'.symm
    · subst e
      rw [hself] at hb; rw [hbase k' e'] at hb'
      rcases hnb b hb with h1 | h1
      · exact h.inj _ _ b hlive hk2' h1 hb'
      · have := h.base_lt hk2' hb'; omega
    · subst e'
      rw [hself] at hb'; rw [hbase k e] at hb
      rcases hnb b hb' with h1 | h1
      · exact h.inj _ _ b hk2 hlive hb h1
      · have := h.base_lt hk2 hb; omega
    · rw [hbase k e] at hb; rw [hbase k' e'] at hb'
      exact h.inj k k' b hk2 hk2' hb hb'
  · rcases live_set hk with ⟨rfl, _, _⟩ | ⟨e, hk⟩
    · rw [hself] at hb
      rcases hnb b hb with h1 | h1
      · exact h.dis _ b hlive h1 hi
      · have := h.lt b hi; omega
    · rw [hbase k e] at hb; exact h.dis k b hk hb hi
  · obtain ⟨k, hk, hb'⟩ := ht
    rcases live_set hk with ⟨rfl, _, _⟩ | ⟨e, hk⟩
    · rw [hself] at hb'
      rcases hnb b hb' with h1 | h1
      · exact ⟨_, hlive, h1⟩
      · omega
    · exact ⟨k, hk, by rw [hbase k e] at hb'; exact hb'⟩

theorem Ghost.reset_self (g : Ghost) (l : Nat) : g.reset l (g.ver l) (g.base l) (g.cap l) = g := by
  simp only [Ghost.reset]
  congr 1 <;> (funext k; split <;> simp_all)

/-- An object is turned in its own block. -/
theorem Rel.update {g : Ghost} {w w' : World} {σ : Store} {l b : Nat} {o o' : AObj} (h : Rel g w σ) (hl : σ[l]? = some o) (ho : o.live = true) (hb : g.base l = some b)
    (hsz : w'.heap.size = w.heap.size) (hos : w'.os = w.os) (htape : w'.tape = w.tape) (hout : w'.output = w.output)
    (hheap : ∀ c, c ≠ b → w'.heap[c]? = w.heap[c]?) (hok : Mono g w g w' → o'.Ok g w' l) :
    Rel g w' (σ.set l o') ∧ Evo σ g w (σ.set l o') g w' := by
  have := Rel.change (o' := o') (w' := w') h hl ho (g.ver l) (g.base l) (g.cap l) (Nat.le_refl _) (fun _ => ⟨rfl, rfl⟩) (Nat.le_of_eq hsz.symm) hos htape hout
    (fun c _ hc => hheap c (fun e => hc (e ▸ hb))) (fun c hc => .inl hc)
  rw [g.reset_self l] at this
  exact this hok

/-- An object is frozen: its block turns no more. -/
theorem Rel.freeze {g : Ghost} {w : World} {σ : Store} {l b : Nat} {o : AObj} (h : Rel g w σ) (hl : σ[l]? = some o) (ho : o.live = true) (hb : g.base l = some b) :
    Rel (g.addImm b) w (σ.set l .dead) ∧ Evo σ g w (σ.set l .dead) (g.addImm b) w := by
  have hlive : Live σ l := ⟨o, hl, ho⟩
  have hm : Mono g w (g.addImm b) w := ⟨fun c hc => ⟨.inl hc, rfl⟩, Nat.le_refl _, fun _ _ => ⟨Nat.le_refl _, fun _ => ⟨rfl, rfl⟩⟩⟩
  refine ⟨⟨by simp [Ghost.addImm, h.len], fun c hc => ?_, fun k ok hk => ?_, fun k k' c hk hk' hc hc' => ?_, fun k c hk hc hi => ?_, h.glob.mono hm.imm⟩,
    ⟨hm, Nat.le_refl _, rfl, rfl, rfl, fun _ _ _ => rfl, fun c _ hi => ?_, fun c _ ht => ?_⟩⟩
  · rcases hc with hc | rfl
    · exact h.lt c hc
    · exact h.base_lt hlive hb
  · by_cases e : k = l
    · subst e
      have hlt := (List.getElem?_eq_some_iff.1 hk).1
      simp at hlt
      simp [hlt] at hk
      subst hk
      trivial
    · rw [List.getElem?_set_ne (Ne.symm e)] at hk
      have hkn : k < g.n := by rw [← h.len]; exact (List.getElem?_eq_some_iff.1 hk).1
      exact (h.ok k ok hk).step hm hkn rfl (fun _ _ => rfl)
  · rcases live_set hk with ⟨_, _, e⟩ | ⟨_, hk⟩
    · simp [AObj.live] at e
    · rcases live_set hk' with ⟨_, _, e⟩ | ⟨_, hk'⟩
      · simp [AObj.live] at e
      · exact h.inj k k' c hk hk' hc hc'
  · rcases live_set hk with ⟨_, _, e⟩ | ⟨e, hk⟩
    · simp [AObj.live] at e
    · rcases hi with hi | rfl
      · exact h.dis k c hk hc hi
      · exact e (h.inj k l c hk hlive hc hb)
  · rcases hi with hi | rfl
    · exact .inl hi
    · exact .inr ⟨l, hlive, hb⟩
  · obtain ⟨k, hk, hc⟩ := ht
    rcases live_set hk with ⟨_, _, e⟩ | ⟨_, hk⟩
    · simp [AObj.live] at e
    · exact ⟨k, hk, hc⟩

/-- A new object that has no block yet: an empty vector. -/
theorem Rel.mkvec {g : Ghost} {w : World} {σ : Store} (h : Rel g w σ) (el : El) :
    Rel (g.push 0 none 0) w (σ ++ [.vec el []]) ∧ Evo σ g w (σ ++ [.vec el []]) (g.push 0 none 0) w := by
  have hm : Mono g w (g.push 0 none 0) w := ⟨fun b hb => ⟨hb, rfl⟩, Nat.le_succ _, fun l hl => by simp [Ghost.push, Nat.ne_of_lt hl]⟩
  have hbase : ∀ l, l < g.n → (g.push 0 none 0).base l = g.base l := fun l hl => by simp [Ghost.push, Nat.ne_of_lt hl]
  have hnew : (g.push 0 none 0).base g.n = none := by simp [Ghost.push]
  have hold : ∀ l b, Live (σ ++ [.vec el []]) l → (g.push 0 none 0).base l = some b → Live σ l ∧ g.base l = some b := fun l b hl hb => by
    rcases live_append hl with hl | rfl
    · rw [hbase l (by rw [← h.len]; exact hl.lt)] at hb
      exact ⟨hl, hb⟩
    · rw [h.len, hnew] at hb; cases hb
  refine ⟨⟨by simp [Ghost.push, h.len], h.lt, fun l o' ho => ?_, fun l l' b hl hl' hb hb' => h.inj l l' b (hold l b hl hb).1 (hold l' b hl' hb').1 (hold l b hl hb).2 (hold l' b hl' hb').2,
      fun l b hl hb hi => h.dis l b (hold l b hl hb).1 (hold l b hl hb).2 hi, h.glob.mono hm.imm⟩,
    ⟨hm, Nat.le_refl _, rfl, rfl, rfl, fun _ _ _ => rfl, fun b hb hi => .inl hi, fun b hb ht => ?_⟩⟩
  · by_cases hl : l < σ.length
    · rw [List.getElem?_append_left hl] at ho
      have hl' : l < g.n := by rw [← h.len]; exact hl
      exact (h.ok l o' ho).step hm hl' (by simp [Ghost.push, Nat.ne_of_lt hl']) (fun _ _ => rfl)
    · have h1 := (List.getElem?_eq_some_iff.1 ho).1
      simp at h1
      have h2 : l = σ.length := by omega
      subst h2
      simp at ho
      subst ho
      rw [h.len]
      exact ⟨by simp [Ghost.push], by simp, .inl ⟨rfl, hnew, by simp [Ghost.push]⟩⟩
  · obtain ⟨l, hl, hb'⟩ := ht
    exact ⟨l, (hold l b hl hb').1, (hold l b hl hb').2⟩

/-! ### Cells of a block are written -/

theorem setCell_heap_ne (w : World) (b i : Nat) (v : Value) {c : Nat} (h : c ≠ b) : (w.setCell ⟨b, i, none⟩ v).heap[c]? = w.heap[c]? :=
  Go.RowKit.Below.heap_setCell w ⟨b, i, none⟩ v c h
theorem Row.set {w : World} {b : Nat} {vs : Array Value} (h : Row w b vs) (i : Nat) (v : Value) : Row (w.setCell ⟨b, i, none⟩ v) b (vs.setIfInBounds i v) := by
  obtain ⟨T, fz, h1, h2⟩ := h
  refine ⟨T, fz, ?_, fun j hj => ?_⟩
  · simp [World.setCell, Array.getElem?_modify, h1]
  · rw [World.frozen?_setCell]
    exact h2 j (by simpa using hj)

/-- Cells are written one behind the other. -/
def setRow (w : World) (b : Nat) : Nat → List Value → World
  | _, [] => w
  | i, v :: vs => setRow (w.setCell ⟨b, i, none⟩ v) b (i + 1) vs
def putRow (vs : Array Value) : Nat → List Value → Array Value
  | _, [] => vs
  | i, u :: us => putRow (vs.setIfInBounds i u) (i + 1) us
theorem setRow_facts (w : World) (b i : Nat) (us : List Value) : (setRow w b i us).heap.size = w.heap.size ∧ (setRow w b i us).os = w.os ∧ (setRow w b i us).tape = w.tape ∧
    (setRow w b i us).output = w.output ∧ ∀ c, c ≠ b → (setRow w b i us).heap[c]? = w.heap[c]? := by
  induction us generalizing w i with
  | nil => exact ⟨rfl, rfl, rfl, rfl, fun _ _ => rfl⟩
  | cons u us ih =>
    obtain ⟨h1, h2, h3, h4, h5⟩ := ih (w.setCell ⟨b, i, none⟩ u) (i + 1)
    exact ⟨h1.trans (World.size_setCell ..), h2, h3, h4, fun c hc => (h5 c hc).trans (setCell_heap_ne w b i u hc)⟩
theorem Row.setRow {w : World} {b : Nat} {vs : Array Value} (h : Row w b vs) (i : Nat) (us : List Value) : Row (setRow w b i us) b (putRow vs i us) := by
  induction us generalizing w i vs with
  | nil => exact h
  | cons u us ih => exact ih (h.set i u) (i + 1)
theorem shape_setCell (w : World) (b i : Nat) (v : Value) (c : Nat) : (w.setCell ⟨b, i, none⟩ v).shape? c = w.shape? c := by
  by_cases h : c = b
  · subst h
    simp only [World.shape?, World.setCell, Array.getElem?_modify, if_true]
    cases w.heap[c]? with
    | none => rfl
    | some o => cases o <;> simp
  · simp only [World.shape?, setCell_heap_ne w b i v h]
theorem shape_setRow (w : World) (b i : Nat) (us : List Value) (c : Nat) : (setRow w b i us).shape? c = w.shape? c := by
  induction us generalizing w i with
  | nil => rfl
  | cons u us ih => exact (ih (w.setCell ⟨b, i, none⟩ u) (i + 1)).trans (shape_setCell w b i u c)
theorem size_putRow (vs : Array Value) (i : Nat) (us : List Value) : (putRow vs i us).size = vs.size := by
  induction us generalizing vs i with
  | nil => rfl
  | cons u us ih => simp [putRow, ih]
theorem getD_putRow (vs : Array Value) (i : Nat) (us : List Value) (hi : i + us.length ≤ vs.size) (j : Nat) (d : Value) :
    (putRow vs i us).getD j d = if i ≤ j ∧ j < i + us.length then us.getD (j - i) d else vs.getD j d := by
  induction us generalizing vs i with
  | nil => simp [putRow]; intro h1 h2; omega
  | cons u us ih =>
    simp only [List.length_cons] at hi
    rw [putRow, ih (vs.setIfInBounds i u) (i + 1) (by simp; omega)]
    by_cases h1 : i + 1 ≤ j ∧ j < i + 1 + us.length
    · rw [if_pos h1, if_pos (by simp only [List.length_cons]; omega)]
      obtain ⟨k, rfl⟩ : ∃ k, j = i + 1 + k := ⟨j - (i + 1), by omega⟩
      rw [show i + 1 + k - (i + 1) = k by omega, show i + 1 + k - i = k + 1 by omega]
      simp
    · rw [if_neg h1]
      by_cases h2 : j = i
      · subst h2
        rw [if_pos (by simp only [List.length_cons]; omega)]
        have hlt : j < vs.size := by omega
        simp [hlt]
      · rw [if_neg (by simp only [List.length_cons]; omega)]
        simp [Array.getElem?_setIfInBounds_ne (Ne.symm h2)]

end Go.AM
