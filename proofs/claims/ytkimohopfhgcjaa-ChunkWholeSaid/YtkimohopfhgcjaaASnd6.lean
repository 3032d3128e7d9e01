/- Slices of slices, literals, lengths, equality. -/
import Derived.Test.YtkimohopfhgcjaaASnd5
namespace Go.AM
set_option linter.unusedSimpArgs false
set_option linter.unusedVariables false
set_option linter.unnecessarySimpa false
section
variable {P : Program} {g : Ghost} {w : World} {σ : Store} {K : AV → Store → Prop}

/-- The bounds of a slice expression, read. -/
theorem bounds_run {lo hi : Option AV} {vl vh : Option Value} {len cap : Nat} {K : Nat → Nat → Prop} (hl : BoundR g w lo vl) (hh : BoundR g w hi vh) (hlc : len ≤ cap)
    (hK : bound hi len len fun h => bound lo 0 h fun l => K l h) :
    ∃ l h : Nat, l ≤ h ∧ h ≤ len ∧ (Instr.sliceBounds true len cap vl vh none).run P w = .ok (l, h, cap) w ∧ K l h := by
  obtain ⟨h, hb, kb1, kb2⟩ : ∃ h : Nat, h ≤ len ∧ (match vh with | some v => Instr.sliceBound v cap .sliceAcap | none => Pure.pure len : Sem Nat).run P w = .ok h w ∧ bound lo 0 h fun l => K l h := by
    cases hi with
    | none => cases vh with
      | none => exact ⟨len, Nat.le_refl _, rfl, hK⟩
      | some v => exact hh.elim
    | some u => cases vh with
      | none => exact hh.elim
      | some v =>
        have hh' : VR g w u v := hh
        cases hh' <;> simp only [bound] at hK
        case int k i => exact ⟨i.toNat, by omega, run_bound hK.1 (by omega), hK.2.2⟩
  obtain ⟨l, lb, r1, r2⟩ : ∃ l : Nat, l ≤ h ∧ (match vl with | some v => Instr.sliceBound v h .sliceB | none => Pure.pure 0 : Sem Nat).run P w = .ok l w ∧ K l h := by
    cases lo with
    | none => cases vl with
      | none => exact ⟨0, Nat.zero_le _, rfl, kb2⟩
      | some v => exact hl.elim
    | some u => cases vl with
      | none => exact hl.elim
      | some v =>
        have hl' : VR g w u v := hl
        cases hl' <;> simp only [bound] at kb2
        case int k i => exact ⟨i.toNat, by omega, run_bound kb2.1 kb2.2.1, kb2.2.2⟩
  refine ⟨l, h, lb, hb, ?_, r2⟩
  cases vh <;> cases vl <;> simp_all [Instr.sliceBounds]

theorem slL_sound {t e : TypeId} {el : El} {x : AV} {a : Value} {lo hi : Option AV} {vl vh : Option Value} (hR : Rel g w σ) (hu : P.underlying t = some (.slice e)) (he : tyEl P e = some el)
    (hx : VR g w x a) (hl : BoundR g w lo vl) (hh : BoundR g w hi vh)
    (hK : match (generalizing := false) x with
      | .nils => bound hi 0 0 fun h => bound lo 0 h fun _ => K .nils σ
      | .lst _ el' xs => el' = el ∧ bound hi xs.length xs.length fun h => bound lo 0 h fun l => K (.lst false el ((xs.drop l).take (h - l))) σ
      | .own el' l m o n => el' = el ∧ match σ[l]? with
        | some (.vecT _ el'' xs) => el'' = el ∧ m = xs.length ∧ o + n ≤ m ∧ bound hi n n fun h => bound lo 0 h fun k => K (.own el l m (o + k) (h - k)) σ
        | _ => False
      | _ => False) : RunS P (Instr.sliceAt t a vl vh none) g w σ K := by
  obtain ⟨fi, hi', _, hs, _⟩ := tyEl_spec he
  have run : ∀ (A : Option Addr) (len cap l h : Nat), (Instr.sliceBounds true len cap vl vh none).run P w = .ok (l, h, cap) w →
      (Instr.sliceAt t (.slice A len cap) vl vh none).run P w = .ok (.slice (if cap = l then A else A.map (·.add (l * el.sz))) (h - l) (cap - l)) w := fun A len cap l h hb => by
    simp only [Instr.sliceAt, Sem.run_bind, run_underlying' hu, Result.andThen_ok, Instr.slice, hb, run_sizeOf' hi', hs, Sem.run_pure]
  cases hx <;> simp only at hK
  case nils =>
    obtain ⟨l, h, q1, q2, q3, q4⟩ := bounds_run (P := P) (cap := 0) hl hh (Nat.le_refl _) hK
    have : h = 0 ∧ l = 0 := by omega
    obtain ⟨rfl, rfl⟩ := this
    refine RunS.pure hR (run none 0 0 0 0 q3) ?_ q4
    simpa using VR.nils
  case lstE f el' b cap hf =>
    obtain ⟨rfl, hK⟩ := hK
    obtain ⟨l, h, q1, q2, q3, q4⟩ := bounds_run (P := P) (cap := cap) hl hh (Nat.zero_le _) hK
    have : h = 0 ∧ l = 0 := by simp at q2; omega
    obtain ⟨rfl, rfl⟩ := this
    refine RunS.pure hR (run b 0 cap 0 0 q3) ?_ q4
    simpa using VR.lstE false _ _ cap (by simp)
  case lst f el' xs b off cap him hf hxc ft hc h =>
    obtain ⟨rfl, hK⟩ := hK
    obtain ⟨l, h', q1, q2, q3, q4⟩ := bounds_run (P := P) (cap := cap) hl hh hxc hK
    refine RunS.pure hR (run _ _ _ _ _ q3) ?_ q4
    by_cases e : h' = l
    · subst e
      simpa using VR.lstE false _ _ (cap - h') (by simp)
    · have hlt : l < h' := by omega
      rw [if_neg (by omega)]
      simp only [Option.map_some, add_plain]
      have hlen : ((xs.drop l).take (h' - l)).length = h' - l := by simp; omega
      have hget : ∀ i, i < h' - l → ((xs.drop l).take (h' - l)).getD i .undef = xs.getD (l + i) .undef := fun i hi => getD_drop_take hi
      have hoff : ∀ i c, off + l * el'.sz + (i * el'.sz + c) = off + ((l + i) * el'.sz + c) := fun i c => by rw [Nat.add_mul]; omega
      have := VR.lst (g := g) (w := w) false el' ((xs.drop l).take (h' - l)) b (off + l * el'.sz) (cap - l) him (by simp) (by rw [hlen]; omega)
        (fun i hi => by rw [hlen] at hi; rw [hget i hi]; exact ft _ (by omega))
        (fun i c hi hcc => by rw [hlen] at hi; rw [hoff]; exact hc _ c (by omega) hcc)
        (fun i c hi hcc => by rw [hlen] at hi; rw [hget i hi, hoff]; exact h _ c (by omega) hcc)
      rwa [hlen] at this
  case own el' l m o n h =>
    obtain ⟨rfl, hK⟩ := hK
    obtain ⟨q1, q2, A, cap, rfl, q3⟩ := h
    split at hK
    · rename_i el'' xs hxs
      obtain ⟨rfl, rfl, hon, hK⟩ := hK
      obtain ⟨o1, o2, o3⟩ := hR.ok l _ hxs
      obtain ⟨q4, q5, q6⟩ := q3 o1.symm
      have hcap : xs.length ≤ g.cap l := by
        rcases o3 with ⟨rfl, _, _⟩ | ⟨b, vs, b1, b2, b3, b4, b5⟩
        · exact Nat.zero_le _
        · exact b4
      obtain ⟨k, h', p1, p2, p3, p4⟩ := bounds_run (P := P) (cap := cap) hl hh (by omega) hK
      refine RunS.pure hR (run _ _ _ _ _ p3) (.own _ _ _ _ _ _ ⟨q1, q2, _, _, rfl, fun e => ⟨by omega, by omega, fun hlt => ?_⟩⟩) p4
      rw [if_neg (by omega), q6 (by omega)]
      cases g.base l with
      | none => rfl
      | some b => simp [add_plain, Nat.add_mul]
    · exact hK.elim

theorem nilck_sound {x : AV} {a : Value} {o : Oper} {y : Operand} {ac : Act} (ho : o.op = .nilCheck y) (ha : ac.eval y = a) (hR : Rel g w σ) (hx : VR g w x a)
    (hK : match (generalizing := false) x with
      | .ref .. | .eref .. | .vref .. | .ifc .. | .fn (.func _) _ _ | .yld _ => K x σ
      | _ => False) :
    ∃ v w' g' av σ', (execOp ac.eval o).run P w = .ok (.value v) w' ∧ Rel g' w' σ' ∧ Evo σ g w σ' g' w' ∧ VR g' w' av v ∧ K av σ' := by
  have fin : (execOp ac.eval o).run P w = .ok (.value a) w → K x σ → ∃ v w' g' av σ', (execOp ac.eval o).run P w = .ok (.value v) w' ∧ Rel g' w' σ' ∧ Evo σ g w σ' g' w' ∧ VR g' w' av v ∧ K av σ' :=
    fun h hk => ⟨a, w, g, x, σ, h, hR, .refl _ _ _, hx, hk⟩
  cases x <;> (try exact False.elim hK)
  case ref l off =>
    refine fin ?_ hK
    cases hx with | ref _ _ _ h => obtain ⟨_, A, rfl, _⟩ := h; simp [execOp, ho, ha]
  case eref el x off =>
    refine fin ?_ hK
    cases hx
    simp [execOp, ho, ha]
  case vref el l m i off =>
    refine fin ?_ hK
    cases hx with | vref _ _ _ _ _ _ h => obtain ⟨_, _, A, rfl, _⟩ := h; simp [execOp, ho, ha]
  case ifc t v =>
    refine fin ?_ hK
    cases hx; simp [execOp, ho, ha]
  case yld l =>
    refine fin ?_ hK
    cases hx with | yld _ _ h => obtain ⟨_, A, rfl, _⟩ := h; simp [execOp, ho, ha]
  case fn f first cap =>
    cases f <;> (try exact False.elim hK)
    case func n =>
      refine fin ?_ hK
      cases hx; simp [execOp, ho, ha]

theorem mkifc_sound {t : TypeId} {d : TypeDesc} {x : AV} {a : Value} (hR : Rel g w σ) (hu : P.underlying t = some d) (hd : ∀ ms, d ≠ .interface ms) (hx : VR g w x a) (hK : K (.ifc t x) σ) :
    RunS P (Instr.makeInterface t a) g w σ K := by
  refine RunS.pure hR ?_ (.ifc t x a hx) hK
  cases d <;> first | (simp [Instr.makeInterface, run_underlying' hu]; done) | exact absurd rfl (hd _)

theorem lenS_sound {ats : Array TypeId} {t : TypeId} {r : TypeId} {x : AV} {a : Value} (hR : Rel g w σ) (ht : ats[0]? = some t) (hu : P.underlying t = some .string) (hx : VR g w x a)
    (hK : match (generalizing := false) x with
      | .str s => K (.int .i64 s.length) σ
      | _ => False) : RunS P (Builtin.len_ ats r #[a]) g w σ K := by
  cases hx <;> simp only at hK
  case str s => exact RunS.pure hR (v := .int .i64 s.length) (by
    have hs : (⟨s.toArray⟩ : ByteArray).size = s.length := List.size_toArray
    unfold Builtin.len_; simp [ht, run_underlying' hu, goInt, hs]) (.int _ _) hK
theorem lenL_sound {ats : Array TypeId} {t e : TypeId} {r : TypeId} {x : AV} {a : Value} (hR : Rel g w σ) (ht : ats[0]? = some t) (hu : P.underlying t = some (.slice e)) (hx : VR g w x a)
    (hK : match (generalizing := false) x with
      | .nils => K (.int .i64 0) σ
      | .lst _ _ xs => K (.int .i64 xs.length) σ
      | .own _ _ _ _ n => K (.int .i64 n) σ
      | _ => False) : RunS P (Builtin.len_ ats r #[a]) g w σ K := by
  have hsl : ∀ A n c, a = .slice A n c → K (.int .i64 n) σ → RunS P (Builtin.len_ ats r #[a]) g w σ K := fun A n c ha hk => by
    subst ha
    exact RunS.pure hR (v := .int .i64 n) (by unfold Builtin.len_; simp [ht, run_underlying' hu, goInt]) (.int _ _) hk
  cases hx <;> simp only at hK
  case nils => exact hsl _ _ _ rfl hK
  case lstE => exact hsl _ _ _ rfl hK
  case lst => exact hsl _ _ _ rfl hK
  case own h => obtain ⟨_, _, A, cap, rfl, _⟩ := h; exact hsl _ _ _ rfl hK

theorem mins_run (op : Bool) : ∀ (xs : List AV) (vs : List Value) (x : AV) (v : Value), VR g w x v → xs.length = vs.length → (∀ i, i < xs.length → VR g w (xs.getD i .undef) (vs.getD i Go.undef)) →
    minsA op x xs (fun v => K v σ) → ∃ av u, (vs.foldlM (if op then Builtin.min2 else Builtin.max2) v).run P w = .ok u w ∧ VR g w av u ∧ K av σ := by
  intro xs
  induction xs with
  | nil =>
    intro vs x v hx hl _ hK
    cases vs with
    | nil => exact ⟨x, v, rfl, hx, hK⟩
    | cons _ _ => cases hl
  | cons y ys ih =>
    intro vs x v hx hl h hK
    cases vs with
    | nil => cases hl
    | cons u us =>
      have hy : VR g w y u := by simpa using h 0 (by simp)
      simp only [minsA] at hK
      cases hx <;> simp only [minA] at hK
      cases hy <;> simp only at hK
      rename_i k a k' b
      obtain ⟨av, u', r1, r2, r3⟩ := ih us _ (.int k (if op then (if b < a then b else a) else (if b > a then b else a))) (.int _ _) (by simpa using hl)
        (fun i hi => by simpa using h (i + 1) (by simpa using hi)) hK
      refine ⟨av, u', ?_, r2, r3⟩
      cases op <;> simpa [List.foldlM_cons, Builtin.min2, Builtin.max2] using r1

theorem min_sound {ats : Array TypeId} {r : TypeId} {x : AV} {xs : List AV} {v : Value} {vs : List Value} (hR : Rel g w σ) (hx : VR g w x v) (hl : xs.length = vs.length)
    (h : ∀ i, i < xs.length → VR g w (xs.getD i .undef) (vs.getD i Go.undef)) (hK : minsA true x xs fun v => K v σ) : RunS P (Builtin.min_ ats r (v :: vs).toArray) g w σ K := by
  obtain ⟨av, u, r1, r2, r3⟩ := mins_run (P := P) true xs vs x v hx hl h hK
  exact RunS.pure hR (by simpa [Builtin.min_] using r1) r2 r3
theorem max_sound {ats : Array TypeId} {r : TypeId} {x : AV} {xs : List AV} {v : Value} {vs : List Value} (hR : Rel g w σ) (hx : VR g w x v) (hl : xs.length = vs.length)
    (h : ∀ i, i < xs.length → VR g w (xs.getD i .undef) (vs.getD i Go.undef)) (hK : minsA false x xs fun v => K v σ) : RunS P (Builtin.max_ ats r (v :: vs).toArray) g w σ K := by
  obtain ⟨av, u, r1, r2, r3⟩ := mins_run (P := P) false xs vs x v hx hl h hK
  exact RunS.pure hR (by simpa [Builtin.max_] using r1) r2 r3

end
end Go.AM
