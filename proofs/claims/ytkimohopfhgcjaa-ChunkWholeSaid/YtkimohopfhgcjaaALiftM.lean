/- Contracts of methods on one struct behind a pointer, lifted. -/
import Derived.Test.YtkimohopfhgcjaaALift
namespace Go.AM
set_option linter.unusedSimpArgs false
set_option linter.unusedVariables false
set_option linter.unnecessarySimpa false
variable {P : Program}

/-- A call on (a part of) one struct: it turns that struct alone. -/
def CallM (P : Program) (f : FuncId) (off : Nat) (args : List AV) (cs ds : List AV) (r : AV) : Prop :=
  ∀ (σ : Store) (k : Nat), σ[k]? = some (.cells cs) → CallA P f (.ref k off :: args) σ fun o σ' => o = .ret r ∧ σ' = σ.set k (.cells ds)

theorem getElem?_set_eq {σ : Store} {k : Nat} {o o' : AObj} (h : σ[k]? = some o) : (σ.set k o')[k]? = some o' := by
  have := (List.getElem?_eq_some_iff.1 h).1
  simp [this]

theorem CallM.of_one {f : FuncId} {off : Nat} {args cs ds : List AV} {r : AV}
    (h : CallA P f (.ref 0 off :: args) [.cells cs] fun o σ' => ∃ r0 ds0 τ, o = .ret r0 ∧ σ' = .cells ds0 :: τ ∧ View (.dead :: τ) r0 r ∧ ViewL (.dead :: τ) ds0 ds) (hp : AV.purL args = true) (hc : AV.purL cs = true) :
    CallM P f off args cs ds r := by
  intro σ k hk
  refine ⟨h.1, fun g w vs hR hlen hv => ?_⟩
  have hkn : k < g.n := by rw [← hR.len]; exact (List.getElem?_eq_some_iff.1 hk).1
  have hlive : Live σ k := ⟨_, hk, rfl⟩
  obtain ⟨hver, hsc, b, us, hb, hrow, hus, hcell, _⟩ := hR.ok k _ hk
  let g0 : Ghost := ⟨g.imm, 1, fun _ => 0, fun _ => some b, fun _ => g.cap k⟩
  have hblt : b < w.heap.size := hrow.lt
  have hnimm : ¬ g.imm b := hR.dis k b hlive hb
  have hpi : ∀ c, g.imm c → g0.imm c ∧ w.heap[c]? = w.heap[c]? := fun c hc => ⟨hc, rfl⟩
  have hR0 : Rel g0 w [.cells cs] := by
    refine ⟨rfl, hR.lt, fun l o ho => ?_, fun l l' c hl hl' _ _ => ?_, fun l c hl hc => ?_, ⟨hR.glob.1, hR.glob.2⟩⟩
    · cases l with
      | zero =>
        simp at ho; subst ho
        exact ⟨rfl, hsc, b, us, rfl, hrow, hus, fun i hi => (hcell i hi).pur hpi (purL_getD hc i), trivial⟩
      | succ l => simp at ho
    · have h1 := hl.lt; have h2 := hl'.lt
      simp at h1 h2; omega
    · have : c = b := by simpa [g0] using hc.symm
      subst this; exact hnimm
  have htr0 : ∀ c, Tracked [.cells cs] g0 c ↔ c = b := fun c => by
    constructor
    · rintro ⟨l, _, hc⟩; simpa [g0] using hc.symm
    · rintro rfl; exact ⟨0, ⟨_, rfl, rfl⟩, rfl⟩
  have hv0 : ∀ i, i < (AV.ref 0 off :: args).length → VR g0 w ((AV.ref 0 off :: args).getD i .undef) (vs.getD i Go.undef) := fun i hi => by
    have := hv i (by simpa using hi)
    cases i with
    | zero =>
      simp only [List.getD_cons_zero] at this ⊢
      cases this with
      | ref _ _ _ hh =>
        obtain ⟨_, A, e, h2⟩ := hh
        refine .ref _ _ _ ⟨Nat.zero_lt_one, A, e, fun _ => ?_⟩
        have := h2 hver
        rw [hb] at this
        exact this
    | succ i =>
      simp only [List.getD_cons_succ] at this ⊢
      exact this.pur hpi (purL_getD hp i)
  refine (h.2 g0 w vs hR0 (by simpa using hlen) hv0).mono ?_
  rintro e w' ⟨out, g', σ', hR', hE, hO, r0, ds0, τ, rfl, rfl, hview, hviewd⟩
  have hfr : ∀ c, c < w.heap.size → c ≠ b → w'.heap[c]? = w.heap[c]? := fun c hc hne => hE.frame c hc (fun t => hne ((htr0 c).1 t))
  -- the object behind the call
  obtain ⟨hver', hsc', b', us', hb', hrow', hus', hcell', _⟩ := hR'.ok 0 _ rfl
  have hbb : b' = b := by
    have := (hE.mono.ver 0 (by show 0 < 1; omega)).2 hver'
    rw [hb'] at this
    simpa [g0] using this.1
  subst hbb
  let g2 : Ghost := { g with imm := fun c => g.imm c ∨ (w.heap.size ≤ c ∧ c < w'.heap.size) }
  have himm2 : ∀ c, g'.imm c → g2.imm c := fun c hc => by
    by_cases hlt : c < w.heap.size
    · rcases hE.immold c hlt hc with h3 | h3
      · exact .inl h3
      · exfalso
        have := (htr0 c).1 h3
        subst this
        exact hR'.dis 0 c ⟨_, rfl, rfl⟩ hb' hc
    · exact .inr ⟨by omega, hR'.lt c hc⟩
  -- blocks of what was made, seen as what never turns: all but the object's own
  have hm : Mono g w g2 w' := ⟨fun c hc => ⟨.inl hc, hfr c (hR.lt c hc) (fun e => hnimm (e ▸ hc))⟩, Nat.le_refl _, fun _ _ => ⟨Nat.le_refl _, fun _ => ⟨rfl, rfl⟩⟩⟩
  have himm2b : ¬ g2.imm b' := fun hh => by
    rcases hh with hh | hh
    · exact hnimm hh
    · omega
  -- values are seen through the objects that were made, but for the struct itself, which is no vector
  have hview2 : ∀ {x y : AV}, View (.dead :: τ) x y → ∀ {v : Value}, VR g' w' x v → VR g2 w' y v := fun {x y} hxy' {v} hxv => by
    have hRd : Rel g' w' (.dead :: τ) := by
      have hlen := hR'.len
      refine ⟨by simpa using hlen, hR'.lt, fun l o ho => ?_, fun l l' c hl hl' => ?_, fun l c hl => ?_, hR'.glob⟩
      · cases l with
        | zero => simp at ho; subst ho; trivial
        | succ l => exact hR'.ok (l + 1) o (by simpa using ho)
      · have lift : ∀ l, Live (.dead :: τ) l → Live (.cells ds0 :: τ) l := fun l hl => by
          obtain ⟨o, ho, hv⟩ := hl
          cases l with
          | zero => simp at ho; subst ho; cases hv
          | succ l => exact ⟨o, by simpa using ho, hv⟩
        exact hR'.inj l l' c (lift l hl) (lift l' hl')
      · obtain ⟨o, ho, hv⟩ := hl
        cases l with
        | zero => simp at ho; subst ho; cases hv
        | succ l => exact hR'.dis (l + 1) c ⟨o, by simpa using ho, hv⟩
    refine hxy'.vr hRd himm2 (fun c hc => ?_) hxv
    obtain ⟨l, ⟨o, ho, hv⟩, hc⟩ := hc
    cases l with
    | zero => simp at ho; subst ho; cases hv
    | succ l =>
      have hl1 : Live (.cells ds0 :: τ) (l + 1) := ⟨o, by simpa using ho, hv⟩
      refine .inr ⟨?_, hR'.base_lt hl1 hc⟩
      apply Nat.le_of_not_lt
      intro hlt
      have := (htr0 c).1 (hE.trk c hlt ⟨_, hl1, hc⟩)
      subst this
      have := hR'.inj (l + 1) 0 c hl1 ⟨_, rfl, rfl⟩ hc hb'
      omega
  have hds : ds0.length = ds.length := hviewd.1
  have hR2 : Rel g2 w' (σ.set k (.cells ds)) := by
    refine ⟨by simp [g2, hR.len], fun c hc => ?_, fun l o ho => ?_, fun l l' c hl hl' => ?_, fun l c hl hc hi => ?_, hR.glob.mono hm.imm⟩
    · rcases hc with hc | hc
      · exact Nat.lt_of_lt_of_le (hR.lt c hc) hE.size
      · exact hc.2
    · by_cases hlk : l = k
      · subst hlk
        rw [getElem?_set_eq hk] at ho
        cases ho
        refine ⟨hver, ?_, b', us', hb, hrow', by omega, fun i hi => hview2 (hviewd.2 i (by omega)) (hcell' i (by omega)), trivial⟩
        rw [List.all_eq_true] at hsc' ⊢
        intro x hx
        obtain ⟨i, hi, rfl⟩ := List.getElem_of_mem hx
        have h1 := (hviewd.2 i (by omega)).scalar
        rw [List.getD_eq_getElem?_getD, List.getD_eq_getElem?_getD, List.getElem?_eq_getElem hi, List.getElem?_eq_getElem (by omega : i < ds0.length)] at h1
        rw [Option.getD_some, Option.getD_some] at h1
        rw [h1]; exact hsc' _ (List.getElem_mem _)
      · rw [List.getElem?_set_ne (Ne.symm hlk)] at ho
        have hl : l < g.n := by rw [← hR.len]; exact (List.getElem?_eq_some_iff.1 ho).1
        by_cases hvv : o.live = true
        · exact (hR.ok l o ho).step hm hl rfl (fun c hc => hfr c (hR.base_lt ⟨o, ho, hvv⟩ hc) (fun e => hlk (hR.inj l k c ⟨o, ho, hvv⟩ hlive hc (e ▸ hb))))
        · cases o <;> simp [AObj.live] at hvv
          trivial
    · have lift : ∀ l, Live (σ.set k (.cells ds)) l → Live σ l := fun l hl => by
        rcases live_set hl with ⟨rfl, _, _⟩ | ⟨_, hl⟩
        · exact hlive
        · exact hl
      exact hR.inj l l' c (lift l hl) (lift l' hl')
    · have hl' : Live σ l := by
        rcases live_set hl with ⟨rfl, _, _⟩ | ⟨_, hl⟩
        · exact hlive
        · exact hl
      rcases hi with hi | hi
      · exact hR.dis l c hl' hc hi
      · have := hR.base_lt hl' hc; omega
  refine ⟨.ret r, g2, _, hR2, ⟨hm, hE.size, hE.os, hE.tape, hE.output, fun c hc ht => ?_, fun c hc hi => ?_, fun c hc ht => ?_⟩, ?_, rfl, rfl⟩
  · exact hfr c hc (fun e => ht ⟨k, hlive, e ▸ hb⟩)
  · rcases hi with hi | hi
    · exact .inl hi
    · omega
  · obtain ⟨l, hl, hc2⟩ := ht
    rcases live_set hl with ⟨rfl, _, _⟩ | ⟨_, hl⟩
    · exact ⟨_, hlive, hc2⟩
    · exact ⟨l, hl, hc2⟩
  · cases e with
    | returned v => exact hview2 hview hO
    | panicked c => exact hO.elim
    | outgrown => exact hO.elim

/-! ### At a call -/
section
variable {n : FuncId} {args : List AV} {σ : Store} {K Kp : AV → Store → Prop} {r : AV}
theorem callL_f (h : CallF P n args r) (hk : bindV r (.mk : Tg fun r => K r σ)) : callL P n args σ (.mk : Tg (K, Kp)) := callL_i h hk
theorem callD_f (h : CallF P n args r) (hk : bindV r (.mk : Tg fun r => K r σ)) : callD P n args σ (.mk : Tg (K, Kp)) := callD_i h hk
theorem callL_w {args' : List AV} (h : CallF P n args' r) (hv : ViewL [] args args') (hk : bindV r (.mk : Tg fun r => K r σ)) : callL P n args σ (.mk : Tg (K, Kp)) := callL_i (CallF.weak h hv) hk
theorem callD_w {args' : List AV} (h : CallF P n args' r) (hv : ViewL [] args args') (hk : bindV r (.mk : Tg fun r => K r σ)) : callD P n args σ (.mk : Tg (K, Kp)) := callD_i (CallF.weak h hv) hk
theorem callL_v {args' : List AV} (h : CallF P n args' r) (hv : ViewL σ args args') (hr : r.flat = true) (hk : bindV r (.mk : Tg fun r => K r σ)) : callL P n args σ (.mk : Tg (K, Kp)) :=
  (CallF.view h hv hr).mono fun o s ⟨h1, h2⟩ => by subst h1; subst h2; exact hk
theorem callD_v {args' : List AV} (h : CallF P n args' r) (hv : ViewL σ args args') (hr : r.flat = true) (hk : bindV r (.mk : Tg fun r => K r σ)) : callD P n args σ (.mk : Tg (K, Kp)) :=
  ⟨r, fun τ => CallF.view h ⟨hv.1, fun i hi => (hv.2 i hi).mono (fun l o hl => by
    rw [List.getElem?_append_left (List.getElem?_eq_some_iff.1 hl).1]; exact hl)⟩ hr, hk⟩
theorem callL_m {k off : Nat} {cs ds : List AV} (h : CallM P n off args cs ds r) (hσ : σ[k]? = some (.cells cs)) (hk : bindV r (.mk : Tg fun r => bindS (σ.set k (.cells ds)) (.mk : Tg fun σ => K r σ))) :
    callL P n (.ref k off :: args) σ (.mk : Tg (K, Kp)) :=
  (h σ k hσ).mono fun o s ⟨h1, h2⟩ => by subst h1; subst h2; exact hk
end
end Go.AM
