/- Part of a proof: see Root. -/
import Derived.Test.YtnfendddolhcoaaGreatDoorW08
import Derived.MapKept
set_option linter.unnecessarySimpa false
set_option linter.unusedSectionVars false
set_option linter.unusedSimpArgs false
set_option linter.unusedVariables false
namespace Go.AM
open Go.MapKept
theorem Rel.adopt {g : Ghost} {w w' : World} {σ : Store} {l b : Nat} {o : AObj} (h : Rel g w σ) (hl : σ[l]? = some o) (ho : o.live = true) (hb : g.base l = some b) (v c fo : Nat) (o' : AObj)
    (hsz : w'.heap.size = w.heap.size) (hos : w'.os = w.os) (htape : w'.tape = w.tape) (hout : w'.output = w.output)
    (hheap : ∀ c, c ≠ b → w'.heap[c]? = w.heap[c]?) (hok : Mono g w (g.push v (some b) c fo) w' → o'.Ok (g.push v (some b) c fo) w' g.n) :
    Rel (g.push v (some b) c fo) w' (σ.set l .dead ++ [o']) ∧ Evo σ g w (σ.set l .dead ++ [o']) (g.push v (some b) c fo) w' := by
  have hlive : Live σ l := ⟨o, hl, ho⟩
  have hnimm : ¬ g.imm b := h.dis l b hlive hb
  have hm : Mono g w (g.push v (some b) c fo) w' := ⟨fun d hd => ⟨hd, hheap d (fun e => hnimm (e ▸ hd))⟩, Nat.le_succ _, fun k hk => by
    have : k ≠ g.n := Nat.ne_of_lt hk
    simp [Ghost.push, this]⟩
  have hbase : ∀ k, k < g.n → (g.push v (some b) c fo).base k = g.base k := fun k hk => by simp [Ghost.push, Nat.ne_of_lt hk]
  have hnew : (g.push v (some b) c fo).base g.n = some b := by simp [Ghost.push]
  have hold : ∀ k, Live (σ.set l .dead ++ [o']) k → (k < g.n ∧ k ≠ l ∧ Live σ k) ∨ k = g.n := fun k hk => by
    rcases live_append hk with hk | rfl
    · rcases live_set hk with ⟨_, _, e⟩ | ⟨e, hk⟩
      · simp [AObj.live] at e
      · exact .inl ⟨by rw [← h.len]; exact hk.lt, e, hk⟩
    · exact .inr (by simp [h.len])
  refine ⟨⟨by simp [Ghost.push, h.len], fun d hd => by rw [hsz]; exact h.lt d hd, fun k ok hk => ?_, fun k k' d hk hk' hd hd' => ?_, fun k d hk hd hi => ?_, h.glob.mono hm.imm⟩,
    ⟨hm, Nat.le_of_eq hsz.symm, hos, htape, hout, fun d hd ht => hheap d (fun e => ht ⟨l, hlive, e ▸ hb⟩), fun d _ hi => .inl hi, fun d hd ht => ?_⟩⟩
  · by_cases hlt : k < (σ.set l .dead).length
    · rw [List.getElem?_append_left hlt] at hk
      simp only [List.length_set] at hlt
      have hkn : k < g.n := by rw [← h.len]; exact hlt
      by_cases e : k = l
      · subst e
        simp [hlt] at hk
        subst hk
        trivial
      · rw [List.getElem?_set_ne (Ne.symm e)] at hk
        by_cases hv : ok.live = true
        · exact (h.ok k ok hk).step hm hkn (by simp [Ghost.push, Nat.ne_of_lt hkn]) (fun d hd => hheap d (fun e' => e (h.inj k l d ⟨ok, hk, hv⟩ hlive hd (e' ▸ hb))))
        · cases ok <;> simp [AObj.live] at hv
          trivial
    · have h1 := (List.getElem?_eq_some_iff.1 hk).1
      simp at h1 hlt
      have h2 : k = σ.length := by omega
      subst h2
      simp at hk
      subst hk
      rw [h.len]; exact hok hm
  · rcases hold k hk with ⟨k1, k2, k3⟩ | rfl <;> rcases hold k' hk' with ⟨k4, k5, k6⟩ | rfl
    · rw [hbase k k1] at hd; rw [hbase k' k4] at hd'
      exact h.inj k k' d k3 k6 hd hd'
    · rw [hbase k k1] at hd; rw [hnew] at hd'; cases hd'
      exact absurd (h.inj k l b k3 hlive hd hb) k2
    · rw [hbase k' k4] at hd'; rw [hnew] at hd; cases hd
      exact absurd (h.inj k' l b k6 hlive hd' hb) k5
    · rfl
  · rcases hold k hk with ⟨k1, k2, k3⟩ | rfl
    · rw [hbase k k1] at hd; exact h.dis k d k3 hd hi
    · rw [hnew] at hd; cases hd; exact hnimm hi
  · obtain ⟨k, hk, hd'⟩ := ht
    rcases hold k hk with ⟨k1, k2, k3⟩ | rfl
    · exact ⟨k, k3, by rw [hbase k k1] at hd'; exact hd'⟩
    · rw [hnew] at hd'; cases hd'; exact ⟨l, hlive, hb⟩
theorem Rel.kill {g : Ghost} {w : World} {σ : Store} {l : Nat} {o : AObj} (h : Rel g w σ) (hl : σ[l]? = some o) (ho : o.live = true) :
    Rel g w (σ.set l .dead) ∧ Evo σ g w (σ.set l .dead) g w := by
  have := h.change (w' := w) (o' := .dead) hl ho (g.ver l) (g.base l) (g.cap l) (g.off l) (Nat.le_refl _) (fun _ => ⟨rfl, rfl, rfl⟩) (Nat.le_refl _) rfl rfl rfl (fun _ _ _ => rfl) (fun b hb => .inl hb) (fun _ => trivial)
  rwa [Ghost.reset_self] at this
theorem push_off (g : Ghost) (v : Nat) (b : Option Nat) (c o : Nat) : (g.push v b c o).off g.n = o := by simp [Ghost.push]
section
variable {P : Program} {g : Ghost} {w : World} {σ : Store} {K : AV → Store → Prop}
theorem set_self {σ : Store} {l : Nat} {o : AObj} (h : σ[l]? = some o) : σ.set l o = σ := by
  apply List.ext_getElem?
  intro k
  by_cases e : k = l
  · subst e; rw [List.getElem?_set_self (List.getElem?_eq_some_iff.1 h).1]; exact h.symm
  · rw [List.getElem?_set_ne (Ne.symm e)]
def keyD : Option IntKind → TypeDesc → Bool
  | none, .string => true
  | some k, .int k' => k == k'
  | _, _ => false
theorem isKey_of {kd : Option IntKind} {d : TypeDesc} {k : AV} {v : Value} (hd : keyD kd d = true) (hk : k.keyK kd = true) (hv : VR g w k v) : IsKey d v := by
  cases kd with
  | none =>
    cases d <;> simp [keyD] at hd
    cases k <;> simp [AV.keyK] at hk
    cases hv; trivial
  | some q =>
    cases d <;> simp [keyD] at hd
    subst hd
    cases k <;> simp [AV.keyK] at hk
    cases hv; exact hk.symm
theorem same_of {kd : Option IntKind} {d : TypeDesc} {k q : AV} {v u : Value} {b : Bool} (hd : keyD kd d = true) (hk : k.keyK kd = true) (hv : VR g w k v) (hu : VR g w q u) (h : keyEq k q = some b) : Instr.sameNow d v u = some b := by
  cases kd with
  | none =>
    cases d <;> simp [keyD] at hd
    cases k <;> simp [AV.keyK] at hk
    cases q <;> simp [keyEq] at h
    cases hv; cases hu
    subst h
    rename_i s s'
    simp only [Instr.sameNow, Option.some.injEq]
    have e := bytes_beq ⟨s.toArray⟩ ⟨s'.toArray⟩
    by_cases hs : s = s'
    · subst hs; rw [e.2 rfl]; simp
    · have h1 : ¬ ((⟨s.toArray⟩ : ByteArray) == ⟨s'.toArray⟩) = true := fun h => hs (by have := e.1 h; injection this with this; simpa using this)
      simp only [Bool.not_eq_true] at h1
      rw [h1]; simp [hs]
  | some k0 =>
    cases d <;> simp [keyD] at hd
    subst hd
    cases k <;> simp [AV.keyK] at hk
    cases q <;> simp [keyEq] at h
    cases hv; cases hu
    obtain ⟨h1, h2⟩ := h
    subst h1
    simp [Instr.sameNow, h2]
theorem find_sound {kd : Option IntKind} {d : TypeDesc} {k : AV} {v : Value} (hd : keyD kd d = true) (hk : k.keyK kd = true) (hv : VR g w k v) : ∀ (es : List (AV × AV)) (ms : List MapEntry) (i : Nat) (r : Option (Nat × AV)), ms.length = es.length →
    (∀ j, j < es.length → VR g w (es.getD j default).1 (ms.getD j default).key ∧ VR g w (es.getD j default).2 (ms.getD j default).val) → mapFind k es i = some r →
    (r = none ∧ Instr.findNow d v ms i = some none) ∨ ∃ j x u, r = some (i + j, x) ∧ Instr.findNow d v ms i = some (some (i + j, u)) ∧ VR g w x u ∧ j < es.length ∧ Instr.sameNow d v (ms.getD j default).key = some true
  | [], ms, i, r, hl, h, hf => by
    simp [mapFind] at hf
    have : ms = [] := List.length_eq_zero_iff.1 hl
    subst this; subst hf
    exact .inl ⟨rfl, rfl⟩
  | (q, x) :: es, ms, i, r, hl, h, hf => by
    cases ms with
    | nil => simp at hl
    | cons e ms =>
      have h0 := h 0 (by simp)
      simp only [List.getD_cons_zero] at h0
      simp only [mapFind] at hf
      split at hf
      · rename_i he
        cases hf
        have hs := same_of hd hk hv h0.1 he
        exact .inr ⟨0, x, e.val, rfl, by simp [Instr.findNow, hs], h0.2, by simp, by simpa using hs⟩
      · rename_i he
        have hs := same_of hd hk hv h0.1 he
        rcases find_sound hd hk hv es ms (i + 1) r (by simpa using hl) (fun j hj => by simpa using h (j + 1) (by simpa using hj)) hf with ⟨h1, h2⟩ | ⟨j, y, u, h1, h2, h3, h4, h5⟩
        · exact .inl ⟨h1, by simp [Instr.findNow, hs, h2]⟩
        · exact .inr ⟨j + 1, y, u, by rw [h1]; congr 2; omega, by simp [Instr.findNow, hs, h2]; omega, h3, by simpa using h4, by simpa using h5⟩
      · cases hf
theorem born_push {ms : Array MapEntry} {es : List (AV × AV)} {clock : Nat} (h : ms.size = es.length) (h1 : clock = es.length) (h2 : ∀ i, i < es.length → (ms.getD i default).born = i) (k u : Value) (p : AV × AV) :
    clock + 1 = (es ++ [p]).length ∧ ∀ i, i < (es ++ [p]).length → ((ms.push { key := k, val := u, born := clock }).getD i default).born = i := by
  refine ⟨by simp [h1], fun i hi => ?_⟩
  simp only [List.length_append, List.length_cons, List.length_nil] at hi
  by_cases e : i < es.length
  · have h' : i < ms.size := by omega
    have := h2 i e
    simpa [Array.getElem?_push, Nat.ne_of_lt h', h'] using this
  · have : i = ms.size := by omega
    subst this
    have e2 : (ms.push { key := k, val := u, born := clock }).getD ms.size default = { key := k, val := u, born := clock } := by simp
    rw [e2]; show clock = _; omega
theorem born_modify {ms : Array MapEntry} {es : List (AV × AV)} {clock : Nat} (h : ms.size = es.length) (h1 : clock = es.length) (h2 : ∀ i, i < es.length → (ms.getD i default).born = i) (j : Nat) (f : MapEntry → MapEntry) (hf : ∀ e, (f e).born = e.born) (p : AV × AV) :
    clock = (es.set j p).length ∧ ∀ i, i < (es.set j p).length → ((ms.modify j f).getD i default).born = i := by
  refine ⟨by simp [h1], fun i hi => ?_⟩
  simp only [List.length_set] at hi
  have h' : i < ms.size := by omega
  have := h2 i hi
  by_cases e : j = i
  · subst e
    simp only [Array.getD_eq_getD_getElem?, h', Array.getElem?_eq_getElem, Option.getD_some] at this
    simp [h', Array.getElem_modify, hf, this]
  · simpa [h', Array.getElem_modify, e] using this
theorem mkmap_sound {t : TypeId} (hR : Rel g w σ) (hK : K (.mp σ.length) (σ ++ [.map []])) : RunS P (Instr.makeMap t none) g w σ K := by
  obtain ⟨r1, r2⟩ := hR.allocObj (.map #[] 0) (.map []) 0 0 ⟨by simp [Ghost.push], w.heap.size, #[], 0, by simp [Ghost.push], heap_alloc_new w _, rfl, ⟨rfl, fun i hi => absurd hi (Nat.not_lt_zero _)⟩, fun i hi => absurd hi (Nat.not_lt_zero _)⟩
  refine ⟨.map (some w.heap.size), _, _, _, _, ?_, r1, r2, .mp _ _ ⟨by simp [Ghost.push, hR.len], _, rfl, fun _ => by simp [Ghost.push, hR.len]⟩, hK⟩
  simp [Instr.makeMap]
theorem lkup_end {ok : Bool} {v : AV} {u : Value} {b : Bool} (hv : VR g w v u) : VR g w (if ok then .tup [v, .bool b] else v) (if ok then .tuple #[u, .bool b] else u) := by
  cases ok with
  | false => simpa using hv
  | true =>
    refine .tup _ _ rfl (fun i hi => ?_)
    match i, hi with
    | 0, _ => exact hv
    | 1, _ => exact .bool b
theorem lkup_sound {t key elem : TypeId} {d : TypeDesc} {kd : Option IntKind} {ok : Bool} {zero x k : AV} {a v : Value} (hR : Rel g w σ) (ht : P.underlying t = some (.map key elem)) (hkey : P.underlying key = some d) (hd : keyD kd d = true)
    (hz : tyZero P elem = some zero) (hx : VR g w x a) (hv : VR g w k v)
    (hK : match (generalizing := false) x with
      | .nilm => k.keyK kd = true ∧ K (if ok then .tup [zero, .bool false] else zero) σ
      | .mp l => k.keyK kd = true ∧ match σ[l]? with
        | some (.map es) => match mapFind k es 0 with
          | some (some (_, v)) => K (if ok then .tup [v, .bool true] else v) σ
          | some none => K (if ok then .tup [zero, .bool false] else zero) σ
          | none => False
        | _ => False
      | _ => False) : RunS P (Instr.lookup t a v ok) g w σ K := by
  obtain ⟨z, hz1, hz2⟩ := run_zero hz w
  cases hx <;> simp only at hK
  case nilm =>
    obtain ⟨hk, hK⟩ := hK
    have hi := isKey_of hd hk hv
    refine RunS.pure hR (v := if ok then .tuple #[z, .bool false] else z) ?_ (lkup_end (hz2 g w).1) hK
    have hf : (Instr.findKey key v []).run P w = .ok none w := run_findKey hkey rfl
    have hc : (Instr.checkKey true 10000 key v).run P w = .ok () w := run_checkKey hkey hi true 9999
    simp [Instr.lookup, run_underlying' ht, hf, hc, hz1]
  case mp l h =>
    obtain ⟨hk, hK⟩ := hK
    have hi := isKey_of hd hk hv
    obtain ⟨h1, b, rfl, h2⟩ := h
    split at hK
    · rename_i es hes
      obtain ⟨o1, b', ms, clock, o2, o3, o4, ⟨ob1, ob2⟩, o5⟩ := hR.ok l _ hes
      have hbb := h2 o1
      rw [hbb] at o2; cases o2
      have hc : (Instr.checkKey ms.isEmpty 10000 key v).run P w = .ok () w := run_checkKey hkey hi _ 9999
      have hg := Go.MapKept.run_getObj_map (P := P) o3
      have o5' : ∀ j, j < es.length → VR g w (es.getD j default).1 (ms.toList.getD j default).key ∧ VR g w (es.getD j default).2 (ms.toList.getD j default).val := fun j hj => by simpa using o5 j hj
      generalize hfd : mapFind k es 0 = fd at hK
      cases fd with
      | none => exact hK.elim
      | some r =>
        rcases find_sound hd hk hv es ms.toList 0 r (by simpa using o4) o5' hfd with ⟨rfl, hf⟩ | ⟨j, x, u, rfl, hf, hxu, _⟩
        · refine RunS.pure hR (v := if ok then .tuple #[z, .bool false] else z) ?_ (lkup_end (hz2 g w).1) hK
          have hf' : (Instr.findKey key v ms.toList).run P w = .ok none w := run_findKey hkey hf
          simp [Instr.lookup, run_underlying' ht, hg, hf', hc, hz1]
        · refine RunS.pure hR (v := if ok then .tuple #[u, .bool true] else u) ?_ (lkup_end hxu) hK
          have hf' : (Instr.findKey key v ms.toList).run P w = .ok (some (0 + j, u)) w := run_findKey hkey hf
          simp [Instr.lookup, run_underlying' ht, hg, hf', hc]
    · exact hK.elim
theorem mapset_sound {t key elem : TypeId} {d : TypeDesc} {kd : Option IntKind} {l : Nat} {k x : AV} {a v u : Value} {es es' : List (AV × AV)} (hR : Rel g w σ) (ht : P.underlying t = some (.map key elem)) (hkey : P.underlying key = some d) (hd : keyD kd d = true)
    (hx : VR g w (.mp l) a) (hv : VR g w k v) (hu : VR g w x u) (hk : k.keyK kd = true) (hes : σ[l]? = some (.map es)) (hs : mapSet k x es = some es') :
    ∃ w', (Instr.mapUpdate t a v u).run P w = .ok () w' ∧ Rel g w' (σ.set l (.map es')) ∧ Evo σ g w (σ.set l (.map es')) g w' := by
  have hi := isKey_of hd hk hv
  cases hx
  rename_i h
  obtain ⟨h1, b, rfl, h2⟩ := h
  obtain ⟨o1, b', ms, clock, o2, o3, o4, ⟨ob1, ob2⟩, o5⟩ := hR.ok l _ hes
  have hbb := h2 o1
  rw [hbb] at o2; cases o2
  have hc : (Instr.checkKey false 10000 key v).run P w = .ok () w := run_checkKey hkey hi _ 9999
  have hg := Go.MapKept.run_getObj_map (P := P) o3
  have o5' : ∀ j, j < es.length → VR g w (es.getD j default).1 (ms.toList.getD j default).key ∧ VR g w (es.getD j default).2 (ms.toList.getD j default).val := fun j hj => by simpa using o5 j hj
  have hup : ∀ (ms' : Array MapEntry) (ck : Nat), ms'.size = es'.length → (ck = es'.length ∧ ∀ i, i < es'.length → (ms'.getD i default).born = i) → (∀ j, j < es'.length → VR g w (es'.getD j default).1 (ms'.getD j default).key ∧ VR g w (es'.getD j default).2 (ms'.getD j default).val) →
      Rel g { w with heap := w.heap.setIfInBounds b (.map ms' ck) } (σ.set l (.map es')) ∧ Evo σ g w (σ.set l (.map es')) g { w with heap := w.heap.setIfInBounds b (.map ms' ck) } := fun ms' ck hl hbn hh =>
    hR.update (o' := .map es') hes rfl hbb (by simp) rfl rfl rfl (fun c hc => (heap_set o3).2 c hc) (fun hm => ⟨o1, b, ms', ck, hbb, (heap_set o3).1, hl, hbn, fun j hj => ⟨(hh j hj).1.mono hm, (hh j hj).2.mono hm⟩⟩)
  unfold mapSet at hs
  generalize hfd : mapFind k es 0 = fd at hs
  cases fd with
  | none => cases hs
  | some r =>
    rcases find_sound hd hk hv es ms.toList 0 r (by simpa using o4) o5' hfd with ⟨rfl, hf⟩ | ⟨j, y, q, rfl, hf, hxu, hj, hsame⟩
    · simp only [Option.some.injEq] at hs
      subst hs
      have hf' : (Instr.findKey key v ms.toList).run P w = .ok none w := run_findKey hkey hf
      obtain ⟨r1, r2⟩ := hup (ms.push { key := v, val := u, born := clock }) (clock + 1) (by simp [o4]) (born_push o4 ob1 ob2 _ _ _) (fun i hi => by
        simp only [List.length_append, List.length_cons, List.length_nil] at hi
        by_cases h : i < es.length
        · have := o5 i h
          have h' : i < ms.size := by omega
          simpa [List.getElem?_append_left h, Array.getElem?_push, Nat.ne_of_lt h', h'] using this
        · have : i = es.length := by omega
          subst this
          have e1 : (es ++ [(k, x)]).getD es.length default = (k, x) := by simp
          have e2 : (ms.push { key := v, val := u, born := clock }).getD ms.size default = { key := v, val := u, born := clock } := by simp
          rw [e1, ← o4, e2]
          exact ⟨hv, hu⟩)
      exact ⟨_, by simp [Instr.mapUpdate, run_underlying' ht, hg, hf', hc, Go.MapKept.run_setObj_map (P := P) (.map (ms.push { key := v, val := u, born := clock }) (clock + 1)) o3], r1, r2⟩
    · simp only [Option.some.injEq, Nat.zero_add] at hs
      subst hs
      have hf' : (Instr.findKey key v ms.toList).run P w = .ok (some (0 + j, q)) w := run_findKey hkey hf
      have hj' : j < ms.size := by omega
      have hkv : (ms.getD j default).key = v := by
        have h3 : Instr.sameNow d v (ms.toList.getD j default).key = some true := hsame
        have h4 : IsKey d (ms.toList.getD j default).key := by
          cases d <;> cases v <;> simp [IsKey] at hi <;> (generalize (ms.toList.getD j default).key = z at h3; cases z <;> simp [Instr.sameNow] at h3) <;> simp_all [IsKey]
        obtain ⟨r', h5, h6⟩ := sameNow_of_keys hi h4
        rw [h3] at h5; cases h5
        have := h6.1 rfl
        simpa using this.symm
      have hkey2 : ((ms[j]?).map (·.key)).getD v = v := by
        have : ms[j]? = some (ms.getD j default) := by simp [hj']
        rw [this]; exact hkv
      obtain ⟨r1, r2⟩ := hup (ms.modify j fun e => { e with key := v, val := u }) clock (by simp [o4]) (born_modify o4 ob1 ob2 j (fun e => { e with key := v, val := u }) (fun _ => rfl) _) (fun i hi => by
        simp only [List.length_set] at hi
        have hi' : i < ms.size := by omega
        by_cases h : i = j
        · subst h
          simp [hi', hi, Array.getElem_modify, hv, hu]
        · have := o5 i hi
          simpa [hi', hi, Array.getElem_modify, Ne.symm h, List.getElem?_set_ne (Ne.symm h)] using this)
      refine ⟨_, ?_, r1, r2⟩
      have hst := run_keyThatStays (P := P) (w := w) hi
      simp [Instr.mapUpdate, run_underlying' ht, hg, hf', hc, hkey2, hst, Go.MapKept.run_setObj_map (P := P) (.map (ms.modify j fun e => { e with key := v, val := u }) clock) o3]
theorem ment_sound {t key elem : TypeId} {d : TypeDesc} {kd : Option IntKind} {zero x k : AV} {a v : Value} (hR : Rel g w σ) (ht : P.underlying t = some (.map key elem)) (hkey : P.underlying key = some d) (hd : keyD kd d = true)
    (hz : tyZero P elem = some zero) (hx : VR g w x a) (hv : VR g w k v) (hK : mentA σ kd zero x k K) : RunS P (Instr.mapEntry t a v) g w σ K := by
  obtain ⟨z, hz1, hz2⟩ := run_zero hz w
  unfold mentA at hK
  cases hx <;> (try exact False.elim hK)
  case mp l h =>
  obtain ⟨hk, hK⟩ := hK
  have hi := isKey_of hd hk hv
  obtain ⟨h1, b, rfl, h2⟩ := h
  split at hK
  · rename_i es hes
    obtain ⟨o1, b', ms, clock, o2, o3, o4, ⟨ob1, ob2⟩, o5⟩ := hR.ok l _ hes
    have hbb := h2 o1
    rw [hbb] at o2; cases o2
    have hc : (Instr.checkKey false 10000 key v).run P w = .ok () w := run_checkKey hkey hi _ 9999
    have hg := Go.MapKept.run_getObj_map (P := P) o3
    have o5' : ∀ j, j < es.length → VR g w (es.getD j default).1 (ms.toList.getD j default).key ∧ VR g w (es.getD j default).2 (ms.toList.getD j default).val := fun j hj => by simpa using o5 j hj
    have tup2 : ∀ {g : Ghost} {w : World} {x : AV} {y : Value} {n : Nat}, VR g w x y → VR g w (.tup [x, .int .i64 n]) (.tuple #[y, goInt n]) := fun h => .tup _ _ rfl (fun i hi => by
      match i, hi with
      | 0, _ => exact h
      | 1, _ => exact .int _ _)
    generalize hfd : mapFind k es 0 = fd at hK
    cases fd with
    | none => exact hK.elim
    | some r =>
      rcases find_sound hd hk hv es ms.toList 0 r (by simpa using o4) o5' hfd with ⟨rfl, hf⟩ | ⟨j, y, q, rfl, hf, hxu, hj, hsame⟩
      · have hf' : (Instr.findKey key v ms.toList).run P w = .ok none w := run_findKey hkey hf
        obtain ⟨r1, r2⟩ := hR.update (w' := { w with heap := w.heap.setIfInBounds b (.map (ms.push { key := v, val := z, born := clock }) (clock + 1)) }) (o' := .map (es ++ [(k, zero)])) hes rfl hbb (by simp) rfl rfl rfl (fun c hc => (heap_set o3).2 c hc)
          (fun hm => ⟨o1, b, _, _, hbb, (heap_set o3).1, by simp [o4], born_push o4 ob1 ob2 _ _ _, fun i hi => by
            simp only [List.length_append, List.length_cons, List.length_nil] at hi
            by_cases h : i < es.length
            · have := o5 i h
              have h' : i < ms.size := by omega
              simpa [List.getElem?_append_left h, Array.getElem?_push, Nat.ne_of_lt h', h'] using And.intro (this.1.mono hm) (this.2.mono hm)
            · have : i = es.length := by omega
              subst this
              have e1 : (es ++ [(k, zero)]).getD es.length default = (k, zero) := by simp
              have e2 : (ms.push { key := v, val := z, born := clock }).getD ms.size default = { key := v, val := z, born := clock } := by simp
              rw [e1, ← o4, e2]
              exact ⟨hv.mono hm, (hz2 _ _).1⟩⟩)
        refine ⟨.tuple #[z, goInt clock], _, _, _, _, ?_, r1, r2, by rw [ob1]; exact tup2 (hz2 _ _).1, hK⟩
        simp [Instr.mapEntry, run_underlying' ht, hg, hf', hc, hz1, Go.MapKept.run_setObj_map (P := P) (.map (ms.push { key := v, val := z, born := clock }) (clock + 1)) o3]
      · have hf' : (Instr.findKey key v ms.toList).run P w = .ok (some (0 + j, q)) w := run_findKey hkey hf
        have hj' : j < ms.size := by omega
        have hkv : (ms.getD j default).key = v := by
          have h3 : Instr.sameNow d v (ms.toList.getD j default).key = some true := hsame
          have h4 : IsKey d (ms.toList.getD j default).key := by
            cases d <;> cases v <;> simp [IsKey] at hi <;> (generalize (ms.toList.getD j default).key = z at h3; cases z <;> simp [Instr.sameNow] at h3) <;> simp_all [IsKey]
          obtain ⟨r', h5, h6⟩ := sameNow_of_keys hi h4
          rw [h3] at h5; cases h5
          have := h6.1 rfl
          simpa using this.symm
        have hget : ms[j]? = some (ms.getD j default) := by simp [hj']
        have hkey2 : ((ms[j]?).map (·.key)).getD v = v := by rw [hget]; exact hkv
        have hborn : ((ms[j]?).map (fun x => (x.born : Int))).getD 0 = j := by rw [hget]; exact congrArg Int.ofNat (ob2 j hj)
        have hst := run_keyThatStays (P := P) (w := w) hi
        obtain ⟨r1, r2⟩ := hR.update (w' := { w with heap := w.heap.setIfInBounds b (.map (ms.modify j fun e => { e with key := v }) clock) }) (o' := .map es) hes rfl hbb (by simp) rfl rfl rfl (fun c hc => (heap_set o3).2 c hc)
          (fun hm => ⟨o1, b, _, _, hbb, (heap_set o3).1, by simp [o4], by have := born_modify o4 ob1 ob2 j (fun e => { e with key := v }) (fun _ => rfl) default; simpa using this, fun i hi => by
            have hi' : i < ms.size := by omega
            have := o5 i hi
            by_cases h : i = j
            · subst h
              have e3 : (ms.getD i default).val = ms[i].val := by simp [hi']
              have e4 : es.getD i default = es[i] := by simp [hi]
              have h5 := And.intro (this.1.mono hm) (this.2.mono hm)
              rw [hkv] at h5
              simpa [hi', hi, Array.getElem_modify] using h5
            · simpa [hi', hi, Array.getElem_modify, Ne.symm h] using And.intro (this.1.mono hm) (this.2.mono hm)⟩)
        rw [set_self hes] at r1 r2
        refine ⟨.tuple #[q, goInt j], _, _, _, _, ?_, r1, r2, ?_, hK⟩
        · simp only [Nat.zero_add] at hf'
          simp [Instr.mapEntry, run_underlying' ht, hg, hf', hc, hkey2, hborn, hst, Go.MapKept.run_setObj_map (P := P) (.map (ms.modify j fun e => { e with key := v }) clock) o3]
        · rw [Nat.zero_add]
          exact tup2 (hxu.mono r2.mono)
  · exact hK.elim
theorem ests_sound {t : TypeId} {x s v : AV} {a b u : Value} (hR : Rel g w σ) (hx : VR g w x a) (hs : VR g w s b) (hu : VR g w v u) {K : Store → Prop} (hK : estsA σ x s v K) :
    ∃ w' σ', (Instr.entryStore t a b u).run P w = .ok () w' ∧ Rel g w' σ' ∧ Evo σ g w σ' g w' ∧ K σ' := by
  unfold estsA at hK
  split at hK
  case h_2 => exact hK.elim
  rename_i l z
  cases hx
  rename_i h
  cases hs
  obtain ⟨h1, b, rfl, h2⟩ := h
  split at hK
  · rename_i es hes
    obtain ⟨hz0, hz1, hK⟩ := hK
    obtain ⟨o1, b', ms, clock, o2, o3, o4, ⟨ob1, ob2⟩, o5⟩ := hR.ok l _ hes
    have hbb := h2 o1
    rw [hbb] at o2; cases o2
    have hg := Go.MapKept.run_getObj_map (P := P) o3
    have hj' : z.toNat < ms.size := by omega
    have hfi : ms.findIdx? (fun e => (e.born : Int) == z) = some z.toNat := by
      rw [Array.findIdx?_eq_some_iff_getElem]
      have hbn : ∀ i (hi : i < ms.size), ms[i].born = i := fun i hi => by
        have := ob2 i (by omega)
        simpa [hi] using this
      refine ⟨hj', by rw [hbn]; simp; omega, fun j hj => ?_⟩
      rw [hbn]; simp; omega
    obtain ⟨r1, r2⟩ := hR.update (w' := { w with heap := w.heap.setIfInBounds b (.map (ms.modify z.toNat fun e => { e with val := u }) clock) }) (o' := .map (es.set z.toNat ((es.getD z.toNat default).1, v))) hes rfl hbb (by simp) rfl rfl rfl (fun c hc => (heap_set o3).2 c hc)
      (fun hm => ⟨o1, b, _, _, hbb, (heap_set o3).1, by simp [o4], born_modify o4 ob1 ob2 z.toNat (fun e => { e with val := u }) (fun _ => rfl) _, fun i hi => by
        simp only [List.length_set] at hi
        have hi' : i < ms.size := by omega
        have := o5 i hi
        by_cases h : i = z.toNat
        · subst h
          have h5 := And.intro (this.1.mono hm) (hu.mono hm)
          simpa [hi', hi, Array.getElem_modify] using h5
        · simpa [hi', hi, Array.getElem_modify, Ne.symm h, List.getElem?_set_ne (Ne.symm h)] using And.intro (this.1.mono hm) (this.2.mono hm)⟩)
    refine ⟨_, _, ?_, r1, r2, hK⟩
    simp [Instr.entryStore, hg, asInt, asIntOf, hfi, Go.MapKept.run_setObj_map (P := P) (.map (ms.modify z.toNat fun e => { e with val := u }) clock) o3]
  · exact hK.elim
theorem lenm_sound {ats : Array TypeId} {r t k e : TypeId} {x : AV} {a : Value} (hR : Rel g w σ) (h0 : ats[0]? = some t) (ht : P.underlying t = some (.map k e)) (hx : VR g w x a)
    (hK : match (generalizing := false) x with
      | .nilm => K (.int .i64 0) σ
      | .mp l => match σ[l]? with
        | some (.map es) => K (.int .i64 es.length) σ
        | _ => False
      | _ => False) : RunS P (Builtin.len_ ats r #[a]) g w σ K := by
  cases hx <;> simp only at hK
  case nilm => exact RunS.pure hR (v := goInt 0) (by simp [Builtin.len_, h0, run_underlying' ht]) (.int _ _) hK
  case mp l h =>
    obtain ⟨h1, b, rfl, h2⟩ := h
    split at hK
    · rename_i es hes
      obtain ⟨o1, b', ms, clock, o2, o3, o4, ⟨ob1, ob2⟩, o5⟩ := hR.ok l _ hes
      have hbb := h2 o1
      rw [hbb] at o2; cases o2
      refine RunS.pure hR (v := goInt es.length) ?_ (.int _ _) hK
      simp [Builtin.len_, h0, run_underlying' ht, Go.MapKept.run_getObj_map (P := P) o3, o4]
    · exact hK.elim
theorem adv_rel {p : AV} {A : Addr} (d : Nat) (hp : p.ptr = true) (h : VR g w p (.pointer (some A))) : VR g w (p.adv d) (.pointer (some (A.add d))) := by
  cases p <;> simp [AV.ptr] at hp <;> simp only [AV.adv]
  case ref l o =>
    cases h
    rename_i hO
    obtain ⟨h1, A', h2, h3⟩ := hO
    cases h2
    refine .ref _ _ _ ⟨h1, _, rfl, fun e => ?_⟩
    obtain ⟨h4, h5⟩ := h3 e
    rw [h5, add_plain]
    exact ⟨by rw [h5] at h4; exact h4, rfl⟩
  case eref el y o =>
    cases h
    rename_i hc h
    rw [add_plain, Nat.add_assoc]
    refine VR.eref el y _ _ _ ?_ ?_ ?_ ?_ <;> assumption
  case vref el l m i o =>
    cases h
    rename_i hO
    obtain ⟨h1, hm, A', h2, h3⟩ := hO
    cases h2
    refine .vref _ _ _ _ _ _ ⟨h1, hm, _, rfl, fun e => ?_⟩
    obtain ⟨h4, h5⟩ := h3 e
    rw [h5, add_plain, Nat.add_assoc]
    exact ⟨by rw [h5] at h4; exact h4, rfl⟩
theorem ptr_pointer {p : AV} {v : Value} (hp : p.ptr = true) (h : VR g w p v) : ∃ A, v = .pointer (some A) := by
  cases p <;> simp [AV.ptr] at hp <;> cases h
  case ref hO => obtain ⟨_, A, h2, _⟩ := hO; exact ⟨A, h2⟩
  case eref => exact ⟨_, rfl⟩
  case vref hO => obtain ⟨_, _, A, h2, _⟩ := hO; exact ⟨A, h2⟩
theorem boundsA_run {lo hi : Option AV} {vl vh : Option Value} {n : Nat} {K : Nat → Nat → Prop} (hl : BoundR g w lo vl) (hh : BoundR g w hi vh)
    (hK : bound hi n n fun h => bound lo 0 h fun l => K l h) :
    ∃ l h : Nat, l ≤ h ∧ h ≤ n ∧ (Instr.sliceBounds false n n vl vh none).run P w = .ok (l, h, n) w ∧ K l h := by
  obtain ⟨h, hb, kb1, kb2⟩ : ∃ h : Nat, h ≤ n ∧ (match vh with | some v => Instr.sliceBound v n .sliceAlen | none => Pure.pure n : Sem Nat).run P w = .ok h w ∧ bound lo 0 h fun l => K l h := by
    cases hi with
    | none => cases vh with
      | none => exact ⟨n, Nat.le_refl _, rfl, hK⟩
      | some v => exact hh.elim
    | some u => cases vh with
      | none => exact hh.elim
      | some v =>
        have hh' : VR g w u v := hh
        cases hh' <;> simp only [bound] at hK
        case int k i => exact ⟨i.toNat, by omega, run_bound hK.1 (by omega), hK.2.2⟩
  obtain ⟨l, lb, r1, r2⟩ : ∃ l : Nat, l ≤ h ∧ (match vl with | some v => Instr.sliceBound v h .sliceB | none => Pure.pure 0 : Sem Nat).run P w = .ok l w ∧ K l h := by
    cases lo with
    | none => cases vl with
      | none => exact ⟨0, Nat.zero_le _, rfl, kb2⟩
      | some v => exact hl.elim
    | some u => cases vl with
      | none => exact hl.elim
      | some v =>
        have hl' : VR g w u v := hl
        cases hl' <;> simp only [bound] at kb2
        case int k i => exact ⟨i.toNat, by omega, run_bound kb2.1 kb2.2.1, kb2.2.2⟩
  refine ⟨l, h, lb, hb, ?_, r2⟩
  cases vh <;> cases vl <;> simp_all [Instr.sliceBounds]
theorem slA_sound {t e : TypeId} {el : El} {n : Nat} {p : AV} {a : Value} {lo hi : Option AV} {vl vh : Option Value} (hR : Rel g w σ) (hu : P.underlying t = some (.array n e)) (he : tyEl P e = some el)
    (hx : VR g w p a) (hl : BoundR g w lo vl) (hh : BoundR g w hi vh) (hK : slAA el n p lo hi fun v => K v σ) : RunS P (Instr.sliceAt t a vl vh none) g w σ K := by
  obtain ⟨fi, hi', _, hs, _⟩ := tyEl_spec he
  obtain ⟨hp, hK⟩ := hK
  obtain ⟨A, rfl⟩ := ptr_pointer hp hx
  obtain ⟨l, h, q1, q2, q3, q4⟩ := boundsA_run (P := P) hl hh hK
  refine RunS.pure hR (v := .slice (some (if n = l then A else A.add (l * el.sz))) (h - l) (n - l)) ?_ ?_ q4
  · simp [Instr.sliceAt, run_underlying' hu, Instr.sureAddr, q3, run_sizeOf' hi', hs]
  · by_cases e : h = l
    · subst e
      rw [if_pos rfl]
      simpa using VR.lstE (g := g) (w := w) false el (some (if n = h then A else A.add (h * el.sz))) (n - h) (by simp)
    · rw [if_neg e, if_neg (by omega)]
      exact .asl el _ _ _ _ (by omega) (by omega) (adv_rel _ hp hx)
theorem run_copy {ats : Array TypeId} {r sT e : TypeId} {fi : TypeInfo} {w' : World} {base : Option Addr} {dl dc N : Nat} {b : Value} {us : Array Value}
    (h0 : ats[0]? = some sT) (hu : P.underlying sT = some (.slice e)) (hi : P.info? e = some fi) (hl : (Builtin.lenOf b).run P w = .ok N w)
    (hf : (Builtin.firstCells fi.size (min N dl) b).run P w = .ok us w) (hst : ∀ A, base = some A → (storeCells A us.toList).run P w = .ok () w') (hn : base = none → w' = w) :
    (Builtin.copy_ ats r #[.slice base dl dc, b]).run P w = .ok (.int .i64 (min N dl : Nat)) w' := by
  have hf' : (Builtin.firstCells fi.size (N.min dl) b).run P w = .ok us w := hf
  unfold Builtin.copy_
  simp only [List.getElem?_toArray, List.getElem?_cons_zero, List.getElem?_cons_succ, h0, Sem.run_bind, run_underlying' hu, Result.andThen_ok, hl, run_sizeOf' hi, hf']
  cases base with
  | none => rw [hn rfl]; rfl
  | some A => simp [hst A rfl, goInt]
theorem take_fits {el : El} {ys : List AV} (h : ys.all (fun a => a.fits el) = true) (m : Nat) : ∀ i, i < (ys.take m).length → ((ys.take m).getD i .undef).fits el = true := fun i hi => by
  simp only [List.length_take] at hi
  have h1 : i < ys.length := by omega
  have h2 : i < m := by omega
  have := List.all_eq_true.1 h (ys[i]) (List.getElem_mem _)
  simpa [h1, h2] using this
theorem copy_sound {ats : Array TypeId} {r sT e : TypeId} {el : El} {x y : AV} {a b : Value} (hR : Rel g w σ)
    (h0 : ats[0]? = some sT) (hu : P.underlying sT = some (.slice e)) (he : tyEl P e = some el)
    (hx : VR g w x a) (hy : VR g w y b) (hK0 : copyA σ el x y K) : RunS P (Builtin.copy_ ats r #[a, b]) g w σ K := by
  obtain ⟨fi, hi', _, hs, _⟩ := tyEl_spec he
  have none0 : ∀ {base : Option Addr} {dc : Nat}, a = .slice base 0 dc → (∀ ys : List AV, copyTo σ el x ys K → K (.int .i64 0) σ) → RunS P (Builtin.copy_ ats r #[a, b]) g w σ K := fun {base dc} ha hk => by
    obtain ⟨ys, us, k1, k2, k3, k4, k5⟩ := list_first (P := P) 0 hR hy hK0
    have hus : us = #[] := Array.eq_empty_of_size_eq_zero (by simpa using k4)
    subst ha
    refine RunS.pure hR (v := .int .i64 (min ys.length 0 : Nat)) (run_copy (us := us) h0 hu hi' k2 (by rw [hs]; exact k3) (fun A _ => by rw [hus]; simp [storeCells]) (fun _ => rfl)) (by simpa using VR.int _ _) (hk ys k1.2)
  cases hx <;> (try exact (let ⟨_, _, h, _⟩ := list_first (P := P) 0 hR hy hK0; h.2.elim))
  case nils => exact none0 rfl fun ys h => h
  case lstE f el' base cap hf => exact none0 rfl fun ys h => h.2
  case lst f el' xs b' off cap hi hf hx ft hc h =>
    cases xs with
    | nil => exact none0 rfl fun ys h => h.2
    | cons z zs => exact (let ⟨_, _, h, _⟩ := list_first (P := P) 0 hR hy hK0; h.2.elim)
  case asl el' p n A cap hn hc h =>
    obtain ⟨ys, us, ⟨hfit, hK⟩, k2, k3, k4, k5⟩ := list_first (P := P) n hR hy hK0
    obtain ⟨rfl, rfl, hK⟩ := hK
    have ht := take_fits hfit n
    have hlen : (ys.take n).length = min n ys.length := by simp
    obtain ⟨A', w', g', σ', e1, r1, r2, r3, r4⟩ := store_cells (P := P) (x := .agg (ys.take n)) (us := us.toList) hR h (by simp only [AV.cells, Array.length_toList, k4, hlen]; omega) (fun i hi => by
      simp only [AV.cells] at hi ⊢
      have h1 := k5 i 0 hi (by simp)
      have h2 := ht i hi
      have hc0 : ((ys.take n).getD i .undef).cell 0 = (ys.take n).getD i .undef := by
        generalize (ys.take n).getD i .undef = z at h2
        cases z <;> first | rfl | (simp [AV.fits] at h2; done)
      rw [hc0] at h1
      simpa using h1) (holds_oneCell k5 (by rw [k4, hlen]; congr 1; omega) ht) hK
    cases e1
    exact ⟨_, _, g', _, _, run_copy (us := us) h0 hu hi' k2 (by rw [hs]; exact k3) (fun A e => by cases e; exact r1) (fun e => by cases e), r2, r3, .int _ _, r4⟩
  case own el' l m o n h =>
    have hcur : VR g w (.own el' l m o n) a := .own _ _ _ _ _ _ h
    obtain ⟨ys, us, ⟨hfit, hK⟩, k2, k3, k4, k5⟩ := list_first (P := P) n hR hy hK0
    obtain ⟨rfl, hK⟩ := hK
    obtain ⟨q1, q2, A, cap, rfl, q3⟩ := h
    split at hK
    · rename_i T el'' xs hxs
      obtain ⟨rfl, rfl, k6, hK⟩ := hK
      have ht := take_fits hfit n
      have hlen : (ys.take n).length = min ys.length n := by simp; omega
      rcases Nat.eq_zero_or_pos (min ys.length n) with hz | hz
      · have h1 : ys.take n = [] := List.eq_nil_of_length_eq_zero (by omega)
        have hus : us = #[] := Array.eq_empty_of_size_eq_zero (by rw [k4, hz]; simp)
        rw [h1] at hK
        simp only [setMany, set_self hxs] at hK
        exact RunS.pure hR (run_copy (us := us) h0 hu hi' k2 (by rw [hs]; exact k3) (fun A _ => by rw [hus]; simp [storeCells]) (fun _ => rfl)) (.int _ _) hK
      · obtain ⟨o1, o2, o3⟩ := hR.ok l _ hxs
        obtain ⟨q4, q5, q6⟩ := q3 o1.symm
        rcases o3 with ⟨rfl, _, _⟩ | ⟨b', vs, b1, b2, b3, b4, b5, b6⟩
        · simp at q4; omega
        · have q7 := q6 (by omega)
          rw [b1] at q7
          simp only [Option.map_some] at q7
          subst q7
          have hrow : g.off l + (o + n) * el''.sz ≤ vs.size := by
            have : (o + n) * el''.sz ≤ g.cap l * el''.sz := Nat.mul_le_mul_right _ (by omega)
            omega
          have hle : min ys.length n * el''.sz ≤ n * el''.sz := Nat.mul_le_mul_right _ (by omega)
          have hroom : g.off l + o * el''.sz + us.size ≤ vs.size := by rw [Nat.add_mul] at hrow; omega
          have hrun := run_storeCells (P := P) (b := b') (o := g.off l + o * el''.sz) us.toList w vs 0 b2.1 (by simpa using hroom) (holds_oneCell k5 (by rw [k4, hlen]) ht)
          obtain ⟨f1, f2, f3, f4, f5⟩ := setRow_facts w b' (g.off l + o * el''.sz + 0) us.toList
          obtain ⟨r1, r2⟩ := hR.update (o' := .vecT T el'' (setMany xs o (ys.take n))) hxs rfl b1 f1 f2 f3 f4 f5
            (fun hm => ⟨by rw [length_setMany]; exact o1, fun i hi => by
              rw [length_setMany] at hi
              rw [getD_setMany _ _ _ (by omega)]
              split
              · rename_i hh; exact ht _ (by omega)
              · exact o2 i hi,
              .inr ⟨b', _, b1, b2.setRow _ _, by rw [size_putRow]; exact b3, by rw [length_setMany]; exact b4, fun i c hi hc => by
                rw [length_setMany] at hi
                rw [getD_setMany _ _ _ (by omega), getD_putRow _ _ _ (by simpa using hroom)]
                simp only [Array.length_toList, Nat.add_zero, hlen, k4]
                by_cases h1 : o ≤ i ∧ i < o + min ys.length n
                · obtain ⟨j, rfl⟩ : ∃ j, i = o + j := ⟨i - o, by omega⟩
                  have hj : j < min ys.length n := by omega
                  have h2 := idx_lt hj hc
                  rw [if_pos h1, if_pos (by rw [Nat.add_mul]; omega), show g.off l + (o + j) * el''.sz + c - (g.off l + o * el''.sz) = j * el''.sz + c by rw [Nat.add_mul]; omega, show o + j - o = j by omega]
                  have := (k5 j c (by omega) hc).mono hm
                  simpa using this
                · have hne : ¬ (g.off l + o * el''.sz ≤ g.off l + i * el''.sz + c ∧ g.off l + i * el''.sz + c < g.off l + o * el''.sz + min ys.length n * el''.sz) := by
                    rintro ⟨z1, z2⟩
                    rcases Nat.lt_or_ge i o with h2 | h2
                    · have : (i + 1) * el''.sz ≤ o * el''.sz := Nat.mul_le_mul_right _ h2
                      rw [Nat.succ_mul] at this
                      omega
                    · have : (o + min ys.length n) * el''.sz ≤ i * el''.sz := Nat.mul_le_mul_right _ (by omega)
                      rw [Nat.add_mul] at this
                      omega
                  rw [if_neg h1, if_neg hne]
                  exact (b5 i c hi hc).mono hm, by
                cases T with
                | none => trivial
                | some T => rw [size_putRow]; exact ⟨(shape_setRow _ _ _ _ _).trans b6.1, b6.2⟩⟩⟩)
          exact ⟨_, _, g, _, _, run_copy (us := us) h0 hu hi' k2 (by rw [hs]; exact k3) (fun A e => by cases e; exact hrun) (fun e => by cases e), r1, r2, .int _ _, hK⟩
    · exact hK.elim
theorem run_nothing {ats : Array TypeId} {r sT xT e : TypeId} {d : TypeDesc} {el : El} {base : Option Addr} {sLen sCap : Nat} {x : Value} {us : Array Value}
    (h0 : ats[0]? = some sT) (h1 : ats[1]? = some xT) (hu : P.underlying sT = some (.slice e)) (hx : P.underlying xT = some d) (hd : ∀ k, d ≠ .int k) (he : tyEl P e = some el)
    (hl : (Builtin.lenOf x).run P w = .ok 0 w) (hc : sLen ≤ sCap) (hn : (Builtin.firstCells el.sz 0 x).run P w = .ok us w) (hus : us = #[]) :
    (Builtin.append_ ats r #[.slice base sLen sCap, x]).run P w = .ok (.slice base sLen sCap) w := by
  obtain ⟨fi, hi, _, hs, _⟩ := tyEl_spec he
  have hfalse : ((d matches .int _) : Bool) = false := by cases d <;> first | rfl | exact absurd rfl (hd _)
  rw [hus] at hn
  unfold Builtin.append_
  simp only [List.getElem?_toArray, List.getElem?_cons_zero, List.getElem?_cons_succ, h0, h1, Sem.run_bind, run_underlying' hu, Result.andThen_ok, run_sizeOf' hi, hs, run_underlying' hx, Sem.run_pure, hfalse, hl, Bool.false_eq_true, if_false, Nat.add_zero, if_pos hc, hn, Bool.not_false, if_true]
  cases base <;> simp [storeCells]
theorem apx_sound {ats : Array TypeId} {r sT xT e : TypeId} {d : TypeDesc} {el : El} {x y : AV} {a b : Value} (hR : Rel g w σ)
    (h0 : ats[0]? = some sT) (h1 : ats[1]? = some xT) (hu : P.underlying sT = some (.slice e)) (hd' : P.underlying xT = some d) (hd : ∀ k, d ≠ .int k) (he : tyEl P e = some el)
    (hx : VR g w x a) (hy : VR g w y b) (hK0 : apxA σ el x y K) : RunS P (Builtin.append_ ats r #[a, b]) g w σ K := by
  unfold apxA at hK0
  split at hK0
  · rename_i el' l m lo n
    obtain ⟨rfl, hK0⟩ := hK0
    have hcur := hx
    cases hx
    rename_i h
    obtain ⟨q1, q2, A, cap, rfl, q3⟩ := h
    obtain ⟨ys, news, ⟨hfit, hK⟩, hl, hfc, hsz, hh⟩ := list_cells (P := P) hR hy hK0
    have hfit' : ∀ i, i < ys.length → (ys.getD i .undef).fits el' = true := fun i hi => by
      have := List.all_eq_true.1 hfit (ys[i]) (List.getElem_mem _)
      simpa [hi] using this
    have h1c := holds_oneCell hh hsz hfit'
    split at hK
    · rename_i T el'' xs hxs
      obtain ⟨rfl, rfl, k3, hr, hK⟩ := hK
      obtain ⟨o1, o2, o3⟩ := hR.ok l _ hxs
      obtain ⟨q4, q5, q6⟩ := q3 o1.symm
      rcases o3 with ⟨rfl, _, _⟩ | ⟨b', vs, b1, b2, b3, b4, b5, b6⟩
      · simp at k3
      have hfo : vs.size = g.off l + (lo + 1) * el''.sz + cap * el''.sz := by
        rw [b3, ← q5, Nat.add_mul cap, Nat.add_comm (cap * _), Nat.add_assoc]
      have hdl : (xs.drop (lo + 1)).length = n := by simp; omega
      have hzl : (xs.drop (lo + 1) ++ ys).length = n + ys.length := by simp; omega
      have hzf : ∀ i, i < (xs.drop (lo + 1) ++ ys).length → ((xs.drop (lo + 1) ++ ys).getD i .undef).fits el'' = true := fun i hi => by
        rw [hzl] at hi
        by_cases h : i < n
        · have := o2 (lo + 1 + i) (by omega)
          have h' : i < (xs.drop (lo + 1)).length := by omega
          simpa [List.getElem?_append_left h'] using this
        · obtain ⟨j, rfl⟩ : ∃ j, i = n + j := ⟨i - n, by omega⟩
          have := hfit' j (by omega)
          rw [← hdl]
          simpa [List.getElem?_append_right] using this
      have left : ∀ i c, i < n → c < el''.sz → VR g w (((xs.drop (lo + 1)).getD i .undef).cell c) (vs.getD (g.off l + (lo + 1) * el''.sz + i * el''.sz + c) Go.undef) := fun i c hi hc => by
        have := b5 (lo + 1 + i) c (by omega) hc
        rw [show g.off l + (lo + 1 + i) * el''.sz + c = g.off l + (lo + 1) * el''.sz + i * el''.sz + c by rw [Nat.add_mul (lo + 1)]; omega] at this
        rw [show (xs.drop (lo + 1)).getD i .undef = xs.getD (lo + 1 + i) .undef by simp]
        exact this
      have getl : ∀ i, i < n → (xs.drop (lo + 1) ++ ys).getD i .undef = (xs.drop (lo + 1)).getD i .undef := fun i hi => by
        have h' : i < (xs.drop (lo + 1)).length := by omega
        simp [List.getElem?_append_left h']
      have getr : ∀ j, (xs.drop (lo + 1) ++ ys).getD (n + j) .undef = ys.getD j .undef := fun j => by
        rw [← hdl]; simp [List.getElem?_append_right]
      by_cases hc : n + ys.length ≤ cap
      · rcases Nat.eq_zero_or_pos ys.length with hz | hz
        · have hys : ys = [] := List.eq_nil_of_length_eq_zero hz
          subst hys
          have hne : news = #[] := Array.eq_empty_of_size_eq_zero (by simpa using hsz)
          have hrun := run_nothing (P := P) (r := r) (base := A) (sLen := n) (sCap := cap) h0 h1 hu hd' hd he hl (by simpa using hc) (hfc w rfl) hne
          obtain ⟨r1, r2⟩ := hR.adopt (w' := w) hxs rfl b1 n cap (g.off l + (lo + 1) * el''.sz) (.vec el'' (xs.drop (lo + 1) ++ [])) rfl rfl rfl rfl (fun _ _ => rfl)
            (fun hm => ⟨by simp [Ghost.push]; omega, hzf, .inr ⟨b', vs, by simp [Ghost.push], b2, by simp [Ghost.push]; exact hfo, by simp [Ghost.push]; omega, fun i c hi hc' => by
              rw [hzl] at hi
              rw [push_off]
              rw [getl i (by simpa using hi)]
              exact (left i c (by simpa using hi) hc').mono hm, trivial⟩⟩)
          refine ⟨_, _, _, _, _, hrun, r1, r2, .own _ _ _ _ _ _ ⟨by simp [Ghost.push, hR.len], by simp [Ghost.push, hR.len], _, _, rfl, fun _ => ⟨by omega, by simp [Ghost.push, hR.len], fun hlt => ?_⟩⟩, hK⟩
          simp only [Ghost.push, hR.len, if_true] at hlt ⊢
          rw [q6 (by omega), b1]
          simp
        · have q7 := q6 (by omega)
          rw [b1] at q7
          simp only [Option.map_some] at q7
          subst q7
          have hle : (n + ys.length) * el''.sz ≤ cap * el''.sz := Nat.mul_le_mul_right _ hc
          rw [Nat.add_mul] at hle
          have hroom : g.off l + (lo + 1) * el''.sz + n * el''.sz + news.size ≤ vs.size := by omega
          have hrun := run_inplace (P := P) (r := r) (b := b') (o := g.off l + (lo + 1) * el''.sz) (sLen := n) h0 h1 hu hd' hd he hl hc (hfc w rfl) b2.1 hroom h1c
          obtain ⟨f1, f2, f3, f4, f5⟩ := setRow_facts w b' (g.off l + (lo + 1) * el''.sz + n * el''.sz) news.toList
          obtain ⟨r1, r2⟩ := hR.adopt hxs rfl b1 (n + ys.length) cap (g.off l + (lo + 1) * el''.sz) (.vec el'' (xs.drop (lo + 1) ++ ys)) f1 f2 f3 f4 f5
            (fun hm => ⟨by simp [Ghost.push]; omega, hzf, .inr ⟨b', _, by simp [Ghost.push], b2.setRow _ _, by rw [size_putRow]; simp [Ghost.push]; exact hfo, by simp [Ghost.push]; omega, fun i c hi hc' => by
              rw [hzl] at hi
              rw [push_off]
              rw [getD_putRow _ _ _ (by simpa using hroom)]
              simp only [Array.length_toList, hsz]
              by_cases h : i < n
              · have h2 := idx_lt h hc'
                rw [if_neg (by omega), getl i h]
                exact (left i c h hc').mono hm
              · obtain ⟨j, rfl⟩ : ∃ j, i = n + j := ⟨i - n, by omega⟩
                have hj : j < ys.length := by omega
                have h2 := idx_lt hj hc'
                rw [getr, if_pos (by rw [Nat.add_mul n]; omega), show g.off l + (lo + 1) * el''.sz + (n + j) * el''.sz + c - (g.off l + (lo + 1) * el''.sz + n * el''.sz) = j * el''.sz + c by rw [Nat.add_mul n]; omega]
                have := (hh j c hj hc').mono hm
                simpa using this, trivial⟩⟩)
          refine ⟨_, _, _, _, _, hrun, r1, r2, .own _ _ _ _ _ _ ⟨by simp [Ghost.push, hR.len], by simp [Ghost.push, hR.len], _, _, rfl, fun _ => ⟨by omega, by simp [Ghost.push, hR.len], fun hlt => ?_⟩⟩, hK⟩
          simp [Ghost.push, hR.len]
      · obtain ⟨xs', olds, p1, p2, p3, p4, p5⟩ := list_cells (P := P) (K := fun zs => zs = (xs.drop (lo + 1)).take n) (el := el'') hR hcur (by simp [listA, hxs])
        have hxs' : xs' = xs.drop (lo + 1) := by rw [p1]; exact List.take_of_length_le (by omega)
        subst hxs'
        rw [hdl] at p2 p3 p4
        obtain ⟨cap', rest, dr, k1, k2, k6⟩ := run_grow (P := P) (r := r) (base := A) (sLen := n) (sCap := cap) h0 h1 hu hd' hd he hl (by omega) hr (fun _ => p3 _ rfl) (fun _ => hfc _ rfl)
        have k4 := p5.append (rest := rest) hh (by rw [hdl]; exact p4) hsz
        have k3 : (olds ++ news ++ rest).size = cap' * el''.sz := by
          simp only [Array.size_append, p4, hsz, k2]
          rw [← Nat.add_mul, ← Nat.add_mul]
          congr 1
          omega
        obtain ⟨r0, e0⟩ := hR.kill hxs rfl
        have hR' := r0.drew dr
        have hm := alloc_mono_push g { w with drawn := dr } (.cells (olds ++ news ++ rest) e) (n + ys.length) (some w.heap.size) cap' hR'.lt
        obtain ⟨r1, r2⟩ := hR'.allocObj (.cells (olds ++ news ++ rest) e) (.vec el'' (xs.drop (lo + 1) ++ ys)) (n + ys.length) cap'
          ⟨by simp [Ghost.push]; omega, hzf, .inr ⟨w.heap.size, _, by simp [Ghost.push], rowE_alloc _ _ _ e, by simp only [Ghost.push, if_true, Nat.zero_add]; exact k3, by simp [Ghost.push]; omega, fun i c hi hc => by
            rw [push_off, Nat.zero_add]
            exact ((k4 i c hi hc).mono (Evo.drew σ g w dr).mono).mono hm, trivial⟩⟩
        have hlen := hR.len
        refine ⟨_, _, _, _, _, k6, r1, e0.trans ((Evo.drew (σ.set l .dead) g w dr).trans r2), .own _ _ _ _ _ _ ⟨by simp [Ghost.push, hR.len], by simp [Ghost.push, hR.len], _, _, rfl, fun _ => ⟨by omega, by simp [Ghost.push, hR.len], fun _ => by simp [Ghost.push, hR.len]⟩⟩, hK⟩
    · exact hK.elim
  · exact app_sound hR h0 h1 hu hd' hd he hx hy (.inl rfl) hK0
theorem frz_sound {x : AV} {v : Value} (hR : Rel g w σ) (hx : VR g w x v) (hK : frzA σ x K) : RunS P (pure v) g w σ K := by
  unfold frzA at hK
  split at hK
  · exact .pure hR rfl hx hK
  · exact .pure hR rfl hx hK
  · rename_i el l m lo n
    split at hK
    · rename_i T el' xs hl
      obtain ⟨rfl, rfl, hn, hK⟩ := hK
      cases hx with
      | own _ _ _ _ _ _ hO =>
      obtain ⟨_, _, A, cap, rfl, h4⟩ := hO
      obtain ⟨hv0, hf0, hrow⟩ := hR.ok l _ hl
      have hlen : ((xs.drop lo).take n).length = n := by simp; omega
      by_cases hn0 : n = 0
      · subst hn0
        rw [List.take_zero] at hK
        obtain ⟨r1, r2⟩ := hR.kill hl rfl
        exact ⟨_, w, _, _, _, rfl, r1, r2, .lstE false el' A cap (fun h => by cases h), hK⟩
      rcases hrow with ⟨hx, _, _⟩ | ⟨b, vs, hb, hrow, hsz, hle, hc, _⟩
      · subst hx; simp at hn; omega
      obtain ⟨_, h6, h7⟩ := h4 hv0.symm
      have hlt : lo < g.cap l := by omega
      have hA := h7 hlt
      rw [hb] at hA
      simp only [Option.map_some] at hA
      subst hA
      have hidx : ∀ i c, i < n → c < el'.sz → g.off l + (lo + i) * el'.sz + c < vs.size := fun i c h1 h2 => by
        rw [hsz]
        have : (lo + i) * el'.sz + el'.sz ≤ g.cap l * el'.sz := by rw [← Nat.succ_mul]; exact Nat.mul_le_mul_right _ (by omega)
        omega
      have hoff : ∀ i c, g.off l + lo * el'.sz + (i * el'.sz + c) = g.off l + (lo + i) * el'.sz + c := fun i c => by rw [Nat.add_mul]; omega
      have hget : ∀ i, i < n → ((xs.drop lo).take n).getD i .undef = xs.getD (lo + i) .undef := fun i hi => by
        simp [List.getD_eq_getElem?_getD, List.getElem?_take, hi]
      obtain ⟨r1, r2⟩ := hR.freeze hl rfl hb
      refine ⟨_, w, _, _, _, rfl, r1, r2, ?_, hK⟩
      have key := VR.lst (g := g.addImm b) (w := w) false el' ((xs.drop lo).take n) b (g.off l + lo * el'.sz) cap (.inr rfl) (fun h => by cases h) (by omega) (fun i h1 => ?_) (fun i c h1 h2 => ?_) (fun i c h1 h2 => ?_)
      · rw [hlen] at key; exact key
      · rw [hlen] at h1
        rw [hget i h1]
        exact hf0 (lo + i) (by omega)
      · rw [hlen] at h1
        rw [hoff, hrow.cell (hidx i c h1 h2)]; rfl
      · rw [hlen] at h1
        rw [hoff, hget i h1]
        have e1 : cellD w ⟨b, g.off l + (lo + i) * el'.sz + c, none⟩ = vs.getD (g.off l + (lo + i) * el'.sz + c) Go.undef := by
          simp only [cellD, hrow.cell (hidx i c h1 h2), Option.getD_some]
        rw [e1]
        exact (hc (lo + i) c (by omega) h2).mono r2.mono
    · exact hK.elim
  · exact hK.elim
theorem appL_sound {ats : Array TypeId} {r sT xT e : TypeId} {d : TypeDesc} {el : El} {x y : AV} {a b : Value} (hR : Rel g w σ)
    (h0 : ats[0]? = some sT) (h1 : ats[1]? = some xT) (hu : P.underlying sT = some (.slice e)) (hd' : P.underlying xT = some d) (hd : ∀ k, d ≠ .int k) (he : tyEl P e = some el)
    (hx : VR g w x a) (hy : VR g w y b) (hK0 : appLA σ el x y fun v => K v σ) : RunS P (Builtin.append_ ats r #[a, b]) g w σ K := by
  obtain ⟨ys, news, ⟨hfit, hz, hK⟩, hl, hfc, hsz, hh⟩ := list_cells (P := P) hR hy hK0
  have hfit' : ∀ i, i < ys.length → (ys.getD i .undef).fits el = true := fun i hi => by
    have := List.all_eq_true.1 hfit (ys[i]) (List.getElem_mem _)
    simpa [hi] using this
  have hn : ∀ dr, (Builtin.firstCells el.sz ys.length b).run P { w with drawn := dr } = .ok news { w with drawn := dr } := fun dr => hfc _ rfl
  have key : ∀ (xs : List AV) (olds : Array Value) (base : Option Addr) (sCap : Nat), a = .slice base xs.length sCap → sCap < xs.length + ys.length → roomOk (xs.length + ys.length) el →
      (∀ dr, (Builtin.firstCells el.sz xs.length (.slice base xs.length sCap)).run P { w with drawn := dr } = .ok olds { w with drawn := dr }) →
      olds.size = xs.length * el.sz → HoldsEl g w el xs olds → (∀ i, i < xs.length → (xs.getD i .undef).fits el = true) → K (.lst false el (xs ++ ys)) σ → RunS P (Builtin.append_ ats r #[a, b]) g w σ K := by
    intro xs olds base sCap ha hc hr ho hos hoh hof hk
    obtain ⟨cap, rest, dr, k1, k2, k3⟩ := run_grow (P := P) (r := r) h0 h1 hu hd' hd he hl hc hr ho hn
    have hzs : HoldsEl g w el (xs ++ ys) (olds ++ news ++ rest) := hoh.append hh hos hsz
    have hsize : (olds ++ news ++ rest).size = cap * el.sz := by
      simp only [Array.size_append, hos, hsz, k2]
      rw [← Nat.add_mul, ← Nat.add_mul]
      congr 1
      omega
    have hzf : ∀ i, i < (xs ++ ys).length → ((xs ++ ys).getD i .undef).fits el = true := fun i hi => by
      simp only [List.length_append] at hi
      by_cases h : i < xs.length
      · have := hof i h
        simpa [List.getElem?_append_left h] using this
      · obtain ⟨j, rfl⟩ : ∃ j, i = xs.length + j := ⟨i - xs.length, by omega⟩
        have := hfit' j (by omega)
        simpa [List.getElem?_append_right] using this
    have hR' := hR.drew dr
    have hrow := row_alloc { w with drawn := dr } (olds ++ news ++ rest) e
    have hm := alloc_mono_imm g { w with drawn := dr } (.cells (olds ++ news ++ rest) e) hR'.lt
    obtain ⟨r1, r2⟩ := hR'.allocImm (.cells (olds ++ news ++ rest) e)
    have hlt : ∀ i c, i < (xs ++ ys).length → c < el.sz → i * el.sz + c < (olds ++ news ++ rest).size := fun i c hi hc => by
      rw [hsize]
      have h2 : i * el.sz + el.sz ≤ cap * el.sz := by
        rw [← Nat.succ_mul]
        refine Nat.mul_le_mul_right _ ?_
        simp only [List.length_append] at hi; omega
      omega
    refine ⟨_, _, _, _, σ, by rw [ha]; exact k3, r1, (Evo.drew σ g w dr).trans r2, ?_, hk⟩
    have := VR.lst (g := g.addImm w.heap.size) (w := World.alloc { w with drawn := dr } (.cells (olds ++ news ++ rest) e)) false el (xs ++ ys) w.heap.size 0 cap (.inr rfl) (fun h => by cases h) (by simpa using k1) hzf
      (fun i c hi hc => by rw [Nat.zero_add, hrow.cell (hlt i c hi hc)]; rfl)
      (fun i c hi hc => by
        have e1 : cellD (World.alloc { w with drawn := dr } (.cells (olds ++ news ++ rest) e)) ⟨w.heap.size, 0 + (i * el.sz + c), none⟩ = (olds ++ news ++ rest).getD (i * el.sz + c) Go.undef := by
          unfold cellD; rw [Nat.zero_add, hrow.cell (hlt i c hi hc)]; rfl
        rw [e1]
        exact ((hzs i c hi hc).mono (Evo.drew σ g w dr).mono).mono hm)
    simpa using this
  cases hx <;> (try exact False.elim hK)
  case nils =>
    exact key [] #[] none 0 rfl (by simp; omega) (by simpa using hK.1) (fun _ => rfl) (by simp) (fun i c hi => absurd hi (Nat.not_lt_zero _)) (fun i hi => absurd hi (Nat.not_lt_zero _)) hK.2
  case lstE f el' base cap hf =>
    cases f with
    | false => exact hK.elim
    | true =>
      obtain ⟨rfl, hr, hK⟩ := hK
      have hcap : cap = 0 := hf rfl
      subst hcap
      exact key [] #[] base 0 rfl (by simp; omega) (by simpa using hr) (fun _ => by cases base <;> simp [Builtin.firstCells, loadCells, loadCellsFrom]) (by simp) (fun i c hi => absurd hi (Nat.not_lt_zero _)) (fun i hi => absurd hi (Nat.not_lt_zero _)) hK
  case lst f el' xs b' off cap him hf hxc ft hc h =>
    cases f with
    | false => exact hK.elim
    | true =>
      obtain ⟨rfl, hr, hK⟩ := hK
      have hcap : cap = xs.length := hf rfl
      subst hcap
      have hcur : VR g w (.lst true el' xs) (.slice (some ⟨b', off, none⟩) xs.length xs.length) := .lst true el' xs b' off _ him hf hxc ft hc h
      obtain ⟨xs', olds, q1, q2, q3, q4, q5⟩ := list_cells (P := P) (K := fun zs => zs = xs) (el := el') hR hcur (by simp [listA])
      subst q1
      exact key xs' olds _ xs'.length rfl (by omega) hr (fun _ => q3 _ rfl) q4 q5 ft hK
theorem bounds3_run {lo : Option AV} {hi mx : AV} {vl : Option Value} {vh vm : Value} {len cap cap0 : Nat} {K : Nat → Nat → Nat → Prop} (hl : BoundR g w lo vl) (hh : VR g w hi vh) (hm : VR g w mx vm) (hcc : cap0 ≤ cap)
    (hK : bound3 lo hi mx cap0 K) :
    ∃ l h m : Nat, l ≤ h ∧ h ≤ m ∧ m ≤ cap0 ∧ (Instr.sliceBounds true len cap vl (some vh) (some vm)).run P w = .ok (l, h, m) w ∧ K l h m := by
  unfold bound3 at hK
  cases hm <;> simp only [bound] at hK
  rename_i k1 m
  obtain ⟨m0, m1, hK⟩ := hK
  cases hh <;> simp only [bound] at hK
  rename_i k2 h
  obtain ⟨h0, h1, hK⟩ := hK
  have e1 := run_bound (P := P) (w := w) (k := k1) (code := .slice3Acap) m0 (show m ≤ (cap : Int) by omega)
  have e2 := run_bound (P := P) (w := w) (k := k2) (code := .slice3B) h0 (show h ≤ (m.toNat : Int) by omega)
  obtain ⟨l, lb, r1, r2⟩ : ∃ l : Nat, l ≤ h.toNat ∧ (match vl with | some v => Instr.sliceBound v h.toNat .slice3C | none => Pure.pure 0 : Sem Nat).run P w = .ok l w ∧ K l h.toNat m.toNat := by
    cases lo with
    | none => cases vl with
      | none => exact ⟨0, Nat.zero_le _, rfl, hK⟩
      | some v => exact hl.elim
    | some u => cases vl with
      | none => exact hl.elim
      | some v =>
        have hl' : VR g w u v := hl
        cases hl' <;> simp only [bound] at hK
        case int k i => exact ⟨i.toNat, by omega, run_bound hK.1 hK.2.1, hK.2.2⟩
  refine ⟨l, h.toNat, m.toNat, lb, by omega, by omega, ?_, r2⟩
  cases vl <;> simp_all [Instr.sliceBounds]
theorem sl3_sound {t e : TypeId} {el : El} {x hi mx : AV} {a vh vm : Value} {lo : Option AV} {vl : Option Value} (hR : Rel g w σ) (hu : P.underlying t = some (.slice e)) (he : tyEl P e = some el)
    (hx : VR g w x a) (hl : BoundR g w lo vl) (hh : VR g w hi vh) (hm : VR g w mx vm) (hK : sl3A σ el x lo hi mx K) : RunS P (Instr.sliceAt t a vl (some vh) (some vm)) g w σ K := by
  obtain ⟨fi, hi', _, hs, _⟩ := tyEl_spec he
  have run : ∀ (A : Option Addr) (len cap l h m : Nat), (Instr.sliceBounds true len cap vl (some vh) (some vm)).run P w = .ok (l, h, m) w →
      (Instr.sliceAt t (.slice A len cap) vl (some vh) (some vm)).run P w = .ok (.slice (if m = l then A else A.map (·.add (l * el.sz))) (h - l) (m - l)) w := fun A len cap l h m hb => by
    simp only [Instr.sliceAt, Sem.run_bind, run_underlying' hu, Result.andThen_ok, Instr.slice, hb, run_sizeOf' hi', hs, Sem.run_pure]
  have lstc : ∀ {g : Ghost} {w : World} {xs : List AV} {b off cap l h m : Nat}, g.imm b → xs.length ≤ cap → h ≤ xs.length → l < h → h ≤ m → (∀ i, i < xs.length → (xs.getD i .undef).fits el = true) →
      (∀ i c, i < xs.length → c < el.sz → (w.cell? ⟨b, off + (i * el.sz + c), none⟩).isSome = true) → (∀ i c, i < xs.length → c < el.sz → VR g w ((xs.getD i .undef).cell c) (cellD w ⟨b, off + (i * el.sz + c), none⟩)) →
      VR g w (.lst (h == m) el ((xs.drop l).take (h - l))) (.slice (some ⟨b, off + l * el.sz, none⟩) (h - l) (m - l)) := by
    intro g w xs b off cap l h m him hxc hhl hlt hhm ft hc h'
    have hlen : ((xs.drop l).take (h - l)).length = h - l := by simp; omega
    have hget : ∀ i, i < h - l → ((xs.drop l).take (h - l)).getD i .undef = xs.getD (l + i) .undef := fun i hi => getD_drop_take hi
    have hoff : ∀ i c, off + l * el.sz + (i * el.sz + c) = off + ((l + i) * el.sz + c) := fun i c => by rw [Nat.add_mul]; omega
    have := VR.lst (g := g) (w := w) (h == m) el ((xs.drop l).take (h - l)) b (off + l * el.sz) (m - l) him (fun e => by rw [hlen]; have := beq_iff_eq.1 e; omega) (by rw [hlen]; omega)
      (fun i hi => by rw [hlen] at hi; rw [hget i hi]; exact ft _ (by omega))
      (fun i c hi hcc => by rw [hlen] at hi; rw [hoff]; exact hc _ c (by omega) hcc)
      (fun i c hi hcc => by rw [hlen] at hi; rw [hget i hi, hoff]; exact h' _ c (by omega) hcc)
    rwa [hlen] at this
  unfold sl3A at hK
  cases hx <;> simp only at hK
  case nils =>
    obtain ⟨l, h, m, q1, q2, q3, q4, q5⟩ := bounds3_run (P := P) (len := 0) (cap := 0) hl hh hm (Nat.le_refl _) hK
    have : h = 0 ∧ l = 0 ∧ m = 0 := by omega
    obtain ⟨rfl, rfl, rfl⟩ := this
    refine RunS.pure hR (run none 0 0 0 0 0 q4) ?_ q5
    simpa using VR.nils
  case lstE f el' b cap hf =>
    obtain ⟨rfl, hK⟩ := hK
    obtain ⟨l, h, m, q1, q2, q3, q4, q5⟩ := bounds3_run (P := P) (len := 0) (cap := cap) hl hh hm (Nat.zero_le _) hK
    have q3 : m ≤ 0 := q3
    have : h = 0 ∧ l = 0 ∧ m = 0 := by omega
    obtain ⟨rfl, rfl, rfl⟩ := this
    refine RunS.pure hR (run b 0 cap 0 0 0 q4) ?_ q5
    simpa using VR.lstE (g := g) (w := w) true el' b 0 (by simp)
  case lst f el' xs b off cap him hf hxc ft hc h =>
    obtain ⟨rfl, hK⟩ := hK
    obtain ⟨l, h', m, q1, q2, q3, q4, q5⟩ := bounds3_run (P := P) (len := xs.length) (cap := cap) hl hh hm hxc hK
    refine RunS.pure hR (run _ _ _ _ _ _ q4) ?_ q5
    by_cases e : h' = l
    · subst e
      simpa using VR.lstE (h' == m) _ _ (m - h') (fun e => by have := beq_iff_eq.1 e; omega)
    · rw [if_neg (by omega)]
      simp only [Option.map_some, add_plain]
      exact lstc him hxc (by omega) (by omega) q2 ft hc h
  case own el' l0 m0 o n h =>
    obtain ⟨rfl, hK⟩ := hK
    obtain ⟨q1, q2, A, cap, rfl, q3⟩ := h
    split at hK
    · rename_i T el'' xs hxs
      obtain ⟨rfl, rfl, hon, hK⟩ := hK
      obtain ⟨o1, o2, o3⟩ := hR.ok l0 _ hxs
      obtain ⟨q4, q5, q6⟩ := q3 o1.symm
      have hcap : xs.length ≤ g.cap l0 := by
        rcases o3 with ⟨rfl, _, _⟩ | ⟨b, vs, b1, b2, b3, b4, b5⟩
        · exact Nat.zero_le _
        · exact b4
      obtain ⟨l, h', m, p1, p2, p3, p4, p5⟩ := bounds3_run (P := P) (len := n) (cap := cap) hl hh hm (by omega) hK
      split at p5
      · rename_i e
        subst e
        have : h' = m := by omega
        subst this
        refine RunS.pure hR (run _ _ _ _ _ _ p4) ?_ p5
        simpa using VR.lstE (g := g) (w := w) true el'' A 0 (by simp)
      · rename_i e
        obtain ⟨rfl, p5⟩ := p5
        rcases o3 with ⟨rfl, _, _⟩ | ⟨b, vs, b1, b2, b3, b4, b5, _⟩
        · simp at q4; omega
        have q7 := q6 (by omega)
        rw [b1] at q7
        simp only [Option.map_some] at q7
        subst q7
        obtain ⟨r1, r2⟩ := hR.freeze hxs rfl b1
        refine ⟨_, w, g.addImm b, _, _, run _ _ _ _ _ _ p4, r1, r2, ?_, p5⟩
        rw [if_neg (by omega)]
        simp only [Option.map_some, add_plain]
        have hlt : ∀ i c, i < xs.length → c < el''.sz → g.off l0 + (i * el''.sz + c) < vs.size := fun i c hi hc => by
          rw [b3]
          have : i * el''.sz + el''.sz ≤ g.cap l0 * el''.sz := by rw [← Nat.succ_mul]; exact Nat.mul_le_mul_right _ (by omega)
          omega
        have hcell : ∀ i c, i < xs.length → c < el''.sz → w.cell? ⟨b, g.off l0 + (i * el''.sz + c), none⟩ = some (vs.getD (g.off l0 + i * el''.sz + c) Go.undef) := fun i c hi hc => by
          rw [b2.cell (hlt i c hi hc), Nat.add_assoc]
        have := lstc (g := g.addImm b) (w := w) (xs := xs) (b := b) (off := g.off l0) (cap := xs.length) (l := o + l) (h := o + h') (m := o + h') (.inr rfl) (Nat.le_refl _) (by omega) (by omega) (Nat.le_refl _) o2
          (fun i c hi hc => by rw [hcell i c hi hc]; rfl)
          (fun i c hi hc => by
            have e1 : cellD w ⟨b, g.off l0 + (i * el''.sz + c), none⟩ = vs.getD (g.off l0 + i * el''.sz + c) Go.undef := by unfold cellD; rw [hcell i c hi hc]; rfl
            rw [e1]; exact (b5 i c hi hc).mono r2.mono)
        rw [show (o + h') - (o + l) = h' - l by omega] at this
        rw [Nat.add_assoc, ← Nat.add_mul]
        simpa using this
    · exact hK.elim
theorem sl3p_sound {t e : TypeId} {el : El} {x hi mx : AV} {a vh vm : Value} {lo : Option AV} {vl : Option Value} (hR : Rel g w σ) (hu : P.underlying t = some (.slice e)) (he : tyEl P e = some el)
    (hx : VR g w x a) (hl : BoundR g w lo vl) (hh : VR g w hi vh) (hm : VR g w mx vm) (hK : sl3pA el x lo hi mx fun v => K v σ) : RunS P (Instr.sliceAt t a vl (some vh) (some vm)) g w σ K := by
  unfold sl3pA at hK
  split at hK
  · exact sl3_sound hR hu he hx hl hh hm hK
  · exact sl3_sound hR hu he hx hl hh hm hK
  · rename_i el' l0 m0 o n
    obtain ⟨rfl, hK⟩ := hK
    obtain ⟨fi, hi', _, hs, _⟩ := tyEl_spec he
    cases hx with
    | own el' l0 m0 o n v h =>
    obtain ⟨q1, q2, A, cap, rfl, q3⟩ := h
    obtain ⟨l, h, m, p1, p2, p3, p4, p5⟩ := bounds3_run (P := P) (len := n) (cap := cap) hl hh hm (Nat.zero_le _) hK
    have : h = 0 ∧ l = 0 ∧ m = 0 := by omega
    obtain ⟨rfl, rfl, rfl⟩ := this
    refine RunS.pure hR (v := .slice A 0 0) ?_ (.lstE true _ A 0 (by simp)) p5
    simp only [Instr.sliceAt, Sem.run_bind, run_underlying' hu, Result.andThen_ok, Instr.slice, p4, run_sizeOf' hi', hs, Sem.run_pure]
    simp
  · exact hK.elim
theorem method_run {t : TypeId} {name : String} {f : FuncId} {v : Value} (h : methOf P t name = some f) (n : Nat) : (method (n + 1) t v name).run P w = .ok (f, v) w := by
  unfold methOf at h
  split at h
  · rename_i i te hi hu
    split at h
    · rename_i m hm
      split at h
      · rename_i f' hf
        split at h
        · rename_i hp
          cases h
          have hpl : m.path.toList = [] := by simpa using hp
          simp [method, run_typeInfo hi, hm, hpl, hf, follow, receiverAt, run_underlying' hu, Place.get]
        · cases h
      · cases h
    · cases h
  · cases h
theorem tas_sound {T xt : TypeId} {d : TypeDesc} {ok : Bool} {zero x : AV} {a : Value} (hR : Rel g w σ) (hu : P.underlying T = some d) (hd : ∀ l, d ≠ .interface l) (hz : tyZero P T = some zero) (hx : VR g w x a)
    (hK : tasA T ok zero x fun v => K v σ) : RunS P (Instr.typeAssert a xt T ok) g w σ K := by
  obtain ⟨z, hz1, hz2⟩ := run_zero hz w
  unfold tasA at hK
  cases hx <;> (try exact False.elim hK)
  case nili =>
    obtain ⟨rfl, hK⟩ := hK
    refine RunS.pure hR (v := .tuple #[z, .bool false]) ?_ (lkup_end (ok := true) (hz2 g w).1) hK
    cases d <;> first | exact absurd rfl (hd _) | simp [Instr.typeAssert, run_underlying' hu, hz1]
  case ifc t y v h =>
    simp only at hK
    split at hK
    · rename_i e; subst e
      refine RunS.pure hR (v := if ok then .tuple #[v, .bool true] else v) ?_ (lkup_end h) hK
      cases d <;> first | exact absurd rfl (hd _) | simp [Instr.typeAssert, run_underlying' hu]
    · rename_i e
      obtain ⟨rfl, hK⟩ := hK
      refine RunS.pure hR (v := .tuple #[z, .bool false]) ?_ (lkup_end (ok := true) (hz2 g w).1) hK
      cases d <;> first | exact absurd rfl (hd _) | simp [Instr.typeAssert, run_underlying' hu, hz1, e]
theorem byte_cell {x : AV} (h : x.fits ⟨false, 1⟩ = true) : x.cell 0 = x ∧ x.scalar = true := by
  cases x <;> first | exact ⟨rfl, rfl⟩ | (simp [AV.fits] at h; done)
theorem arr_fits {xs : List AV} {n : Nat} (hn : xs.length = n) (ft : ∀ i, i < xs.length → (xs.getD i .undef).fits ⟨false, 1⟩ = true) : (AV.agg xs).fits ⟨true, n⟩ = true := by
  simp only [AV.fits, Bool.and_eq_true, beq_iff_eq, List.all_eq_true]
  refine ⟨⟨by trivial, hn⟩, fun x hx => ?_⟩
  obtain ⟨i, hi, rfl⟩ := List.mem_iff_getElem.1 hx
  have := ft i hi
  have h2 : (xs.getD i .undef) = xs[i] := by simp [hi]
  rw [h2] at this
  exact (byte_cell this).2
theorem s2a_sound {t e : TypeId} {n : Nat} {x : AV} {a : Value} (hR : Rel g w σ) (hu : P.underlying t = some (.array n e)) (hx : VR g w x a) (hK : s2aA σ n x K) : RunS P (Instr.arrayAt t a) g w σ K := by
  have run : ∀ (A : Option Addr) (len cap : Nat), n ≤ len → (Instr.arrayAt t (.slice A len cap)).run P w = .ok (.pointer A) w := fun A len cap h => by
    have h1 : ¬ (len < n) := by omega
    simp [Instr.arrayAt, run_underlying' hu, h1]
  have eref : ∀ {g : Ghost} {w : World} {zs : List AV} {b o : Nat}, zs.length = n → g.imm b → (∀ i, i < zs.length → (zs.getD i .undef).fits ⟨false, 1⟩ = true) → (∀ i, i < n → (w.cell? ⟨b, o + i, none⟩).isSome = true) → (∀ i, i < n → VR g w ((zs.getD i .undef).cell 0) (cellD w ⟨b, o + i, none⟩)) →
      VR g w (.eref ⟨true, n⟩ (.agg zs) 0) (.pointer (some ⟨b, o, none⟩)) := fun {g w zs b o} hl hi ft hc h => by
    have := VR.eref (g := g) (w := w) ⟨true, n⟩ (.agg zs) 0 b o hi (arr_fits hl ft) hc (fun c hcn => by
      have hcn : c < n := hcn
      have h1 := h c hcn
      rw [(byte_cell (ft c (by omega))).1] at h1
      exact h1)
    exact this
  unfold s2aA at hK
  cases hx <;> (try exact False.elim hK)
  case lstE f el b cap hf =>
    obtain ⟨_, h1, h2, _⟩ := hK
    simp at h2; omega
  case lst f el xs b off cap him hf hxc ft hc h =>
    obtain ⟨rfl, h1, h2, hK⟩ := hK
    refine RunS.pure hR (run _ _ _ h2) (eref (by simp; omega) him (fun i hi => ?_) (fun i hi => ?_) (fun i hi => ?_)) hK
    · simp only [List.length_take] at hi
      have := ft i (by omega)
      simpa [show i < n by omega] using this
    · have := hc i 0 (by omega) (by simp)
      simpa using this
    · have := h i 0 (by omega) (by simp)
      simpa [hi] using this
  case own el l m o k h =>
    obtain ⟨rfl, hK⟩ := hK
    obtain ⟨q1, q2, A, cap, rfl, q3⟩ := h
    split at hK
    · rename_i T el'' xs hxs
      obtain ⟨rfl, rfl, h1, h2, h3, hK⟩ := hK
      obtain ⟨o1, o2, o3⟩ := hR.ok l _ hxs
      obtain ⟨q4, q5, q6⟩ := q3 o1.symm
      rcases o3 with ⟨rfl, _, _⟩ | ⟨b, vs, b1, b2, b3, b4, b5, _⟩
      · simp at h1; omega
      have q7 := q6 (by omega)
      rw [b1] at q7
      simp only [Option.map_some, Nat.mul_one] at q7
      subst q7
      obtain ⟨r1, r2⟩ := hR.freeze hxs rfl b1
      have hlt : ∀ i, i < xs.length → g.off l + i < vs.size := fun i hi => by simp only [Nat.mul_one] at b3; omega
      have hcell : ∀ i, i < n → w.cell? ⟨b, g.off l + o + i, none⟩ = some (vs.getD (g.off l + (o + i)) Go.undef) := fun i hi => by
        rw [Nat.add_assoc, b2.cell (hlt (o + i) (by omega))]
      refine ⟨_, w, g.addImm b, _, _, run _ _ _ h3, r1, r2, eref (by simp; omega) (.inr rfl) (fun i hi => ?_) (fun i hi => ?_) (fun i hi => ?_), hK⟩
      · simp only [List.length_take, List.length_drop] at hi
        have := o2 (o + i) (by omega)
        simpa [show i < n by omega] using this
      · rw [hcell i hi]; rfl
      · have := (b5 (o + i) 0 (by omega) (by simp)).mono r2.mono
        have e1 : cellD w ⟨b, g.off l + o + i, none⟩ = vs.getD (g.off l + (o + i)) Go.undef := by unfold cellD; rw [hcell i hi]; rfl
        rw [e1]
        simpa [hi] using this
    · exact hK.elim
theorem clr_sound {ats : Array TypeId} {r t e : TypeId} {el : El} {z x : AV} {a : Value} (hR : Rel g w σ) (h0 : ats[0]? = some t) (hu : P.underlying t = some (.slice e)) (he : tyEl P e = some el) (hz : tyZero P e = some z)
    (hx : VR g w x a) (hK : clrA σ el z x fun σ' => K (.tup []) σ') : RunS P (Builtin.clear_ ats r #[a]) g w σ K := by
  obtain ⟨v, z1, z2, z3⟩ := tyZero_size he hz
  have unit : ∀ (g : Ghost) (w : World), VR g w (.tup []) (.tuple #[]) := fun g w => .tup [] #[] rfl (fun i hi => absurd hi (Nat.not_lt_zero _))
  have empty : ∀ (A : Option Addr) (cap : Nat), K (.tup []) σ → RunS P (Builtin.clear_ ats r #[.slice A 0 cap]) g w σ K := fun A cap hK => by
    refine RunS.pure hR (v := .tuple #[]) ?_ (unit _ _) hK
    cases A <;> simp [Builtin.clear_, h0, run_underlying' hu]
  unfold clrA at hK
  cases hx <;> (try exact False.elim hK)
  case nils => exact empty none 0 hK
  case lstE f el' b cap hf => exact empty b cap hK
  case lst f el' xs b off cap him hf hxc ft hc h =>
    cases xs with
    | nil => exact empty _ cap hK
    | cons y ys => exact hK.elim
  case own el' l m o n h =>
    obtain ⟨rfl, hfz, hK⟩ := hK
    obtain ⟨q1, q2, A, cap, rfl, q3⟩ := h
    split at hK
    · rename_i T el'' xs hxs
      obtain ⟨rfl, rfl, k6, hK⟩ := hK
      rcases Nat.eq_zero_or_pos n with hn | hn
      · subst hn
        simp only [List.replicate_zero, setMany, set_self hxs] at hK
        exact empty A cap hK
      · obtain ⟨o1, o2, o3⟩ := hR.ok l _ hxs
        obtain ⟨q4, q5, q6⟩ := q3 o1.symm
        rcases o3 with ⟨rfl, _, _⟩ | ⟨b', vs, b1, b2, b3, b4, b5, b6⟩
        · simp at q4; omega
        · have q7 := q6 (by omega)
          rw [b1] at q7
          simp only [Option.map_some] at q7
          subst q7
          have hrow : g.off l + (o + n) * el''.sz ≤ vs.size := by
            have : (o + n) * el''.sz ≤ g.cap l * el''.sz := Nat.mul_le_mul_right _ (by omega)
            omega
          obtain ⟨us, hus⟩ : ∃ us : Array Value, us = (Array.range (n * el''.sz)).map (v.cells[· % v.cells.size]!) := ⟨_, rfl⟩
          have k4 : us.size = n * el''.sz := by rw [hus]; simp
          have k5 : HoldsEl g w el'' (List.replicate n z) us := by rw [hus]; exact zeros_hold n (z2 g w) hfz z3
          have ht : ∀ i, i < (List.replicate n z).length → ((List.replicate n z).getD i .undef).fits el'' = true := fun i hi => by
            simp only [List.length_replicate] at hi
            simpa [hi] using hfz
          have hlen : (List.replicate n z).length = n := List.length_replicate
          have hzc : Builtin.zeroCells v.cells n = us := by rw [hus]; simp [Builtin.zeroCells, z3]
          have hroom : g.off l + o * el''.sz + us.size ≤ vs.size := by rw [Nat.add_mul] at hrow; omega
          have hrun := run_storeCells (P := P) (b := b') (o := g.off l + o * el''.sz) us.toList w vs 0 b2.1 (by simpa using hroom) (holds_oneCell k5 (by rw [k4, hlen]) ht)
          obtain ⟨f1, f2, f3, f4, f5⟩ := setRow_facts w b' (g.off l + o * el''.sz + 0) us.toList
          obtain ⟨r1, r2⟩ := hR.update (o' := .vecT T el'' (setMany xs o (List.replicate n z))) hxs rfl b1 f1 f2 f3 f4 f5
            (fun hm => ⟨by rw [length_setMany]; exact o1, fun i hi => by
              rw [length_setMany] at hi
              rw [getD_setMany _ _ _ (by omega)]
              split
              · rename_i hh; exact ht _ (by omega)
              · exact o2 i hi,
              .inr ⟨b', _, b1, b2.setRow _ _, by rw [size_putRow]; exact b3, by rw [length_setMany]; exact b4, fun i c hi hc => by
                rw [length_setMany] at hi
                rw [getD_setMany _ _ _ (by omega), getD_putRow _ _ _ (by simpa using hroom)]
                simp only [Array.length_toList, Nat.add_zero, hlen, k4]
                by_cases h1 : o ≤ i ∧ i < o + n
                · obtain ⟨j, rfl⟩ : ∃ j, i = o + j := ⟨i - o, by omega⟩
                  have hj : j < n := by omega
                  have h2 := idx_lt hj hc
                  rw [if_pos h1, if_pos (by rw [Nat.add_mul]; omega), show g.off l + (o + j) * el''.sz + c - (g.off l + o * el''.sz) = j * el''.sz + c by rw [Nat.add_mul]; omega, show o + j - o = j by omega]
                  have := (k5 j c (by omega) hc).mono hm
                  simpa using this
                · have hne : ¬ (g.off l + o * el''.sz ≤ g.off l + i * el''.sz + c ∧ g.off l + i * el''.sz + c < g.off l + o * el''.sz + n * el''.sz) := by
                    rintro ⟨z1, z2⟩
                    rcases Nat.lt_or_ge i o with h2 | h2
                    · have : (i + 1) * el''.sz ≤ o * el''.sz := Nat.mul_le_mul_right _ h2
                      rw [Nat.succ_mul] at this
                      omega
                    · have : (o + n) * el''.sz ≤ i * el''.sz := Nat.mul_le_mul_right _ (by omega)
                      rw [Nat.add_mul] at this
                      omega
                  rw [if_neg h1, if_neg hne]
                  exact (b5 i c hi hc).mono hm, by
                cases T with
                | none => trivial
                | some T => rw [size_putRow]; exact ⟨(shape_setRow _ _ _ _ _).trans b6.1, b6.2⟩⟩⟩)
          refine ⟨.tuple #[], _, g, .tup [], _, ?_, r1, r2, unit _ _, hK⟩
          have hn0 : n ≠ 0 := by omega
          cases n with
          | zero => exact absurd rfl hn0
          | succ n => simp [Builtin.clear_, h0, run_underlying' hu, z1, hzc, hrun]
    · exact hK.elim
end
end Go.AM
