/- Part of a proof: see Root. -/
import Derived.Test.YtnfendddolhcoaaGreatDoorW07
import Derived.Lib.UnsafeStr
import Derived.Lib.Builder
import Derived.Laws.Externs
set_option linter.unnecessarySimpa false
set_option linter.unusedSectionVars false
set_option linter.unusedSimpArgs false
set_option linter.unusedVariables false
namespace Go.AM
section
variable {P : Program} {g : Ghost} {w : World} {σ : Store} {K : AV → Store → Prop}
theorem usd_sound {ats : Array TypeId} {ty : TypeId} {el : El} {x : AV} {a : Value} (hR : Rel g w σ) (hx : VR g w x a)
    (hK : match (generalizing := false) x with
      | .nils => K .nilp σ
      | .own el' l m lo n => el' = el ∧ match σ[l]? with
        | some (.vecT _ el'' xs) => el'' = el ∧ m = xs.length ∧ 0 < n ∧ K (.vref el l m lo 0) σ
        | _ => False
      | _ => False) : RunS P (Builtin.unsafeSliceData_ ats ty #[a]) g w σ K := by
  cases hx <;> simp only at hK
  case nils => exact RunS.pure hR (Lib.run_unsafeSliceData_nil (P := P) w ats ty 0 0) .nilp hK
  case own el' l m lo n h =>
    obtain ⟨rfl, hK⟩ := hK
    obtain ⟨q1, q2, A, cap, rfl, q3⟩ := h
    split at hK
    · rename_i T el'' xs hxs
      obtain ⟨rfl, rfl, hn, hK⟩ := hK
      obtain ⟨o1, o2, o3⟩ := hR.ok l _ hxs
      obtain ⟨q4, q5, q6⟩ := q3 o1.symm
      rcases o3 with ⟨rfl, _, _⟩ | ⟨b, vs, b1, b2, b3, b4, b5, _⟩
      · simp at q4; omega
      · have q7 := q6 (by omega)
        rw [b1] at q7
        simp only [Option.map_some] at q7
        subst q7
        exact RunS.pure hR (Lib.run_unsafeSliceData_row (P := P) w ats ty _ n cap (by omega)) (.vref _ _ _ _ _ _ ⟨q1, q2, _, rfl, fun _ => ⟨b1, rfl⟩⟩) hK
    · exact hK.elim
theorem heap_freeze_ne (w : World) (b n : Nat) {c : Nat} (h : c ≠ b) : (w.freeze ⟨b, 0, none⟩ n).heap[c]? = w.heap[c]? := by
  unfold World.freeze
  split
  · rfl
  · simp only [Array.getElem?_modify]
    rw [if_neg (Ne.symm h)]
theorem freeze_facts (w : World) (b n : Nat) : (w.freeze ⟨b, 0, none⟩ n).heap.size = w.heap.size ∧ (w.freeze ⟨b, 0, none⟩ n).os = w.os ∧ (w.freeze ⟨b, 0, none⟩ n).tape = w.tape ∧ (w.freeze ⟨b, 0, none⟩ n).output = w.output := by
  unfold World.freeze
  split
  · exact ⟨rfl, rfl, rfl, rfl⟩
  · exact ⟨by simp, rfl, rfl, rfl⟩
theorem ustr_sound {pt it ty e : TypeId} {x y : AV} {a b : Value} (hR : Rel g w σ) (hp : P.underlying pt = some (.pointer e)) (hc : P.cellsOf e = 1) (hx : VR g w x a) (hy : VR g w y b)
    (hK : match (generalizing := false) x, y with
      | .nilp, .int .i64 k => k = 0 ∧ K (.str []) σ
      | .vref el l m lo off, .int .i64 k => lo = 0 ∧ off = 0 ∧ el = ⟨false, 1⟩ ∧ match σ[l]? with
        | some (.vecT T' _ xs) => T' = some e ∧ m = xs.length ∧ 0 < k ∧ k ≤ xs.length ∧ xs.length ≤ 2 ^ 62 ∧ ∃ s : List UInt8, xs.take k.toNat = s.map (fun b => AV.int .u8 b.toNat) ∧ K (.str s) (σ.set l .dead)
        | _ => False
      | _, _ => False) : RunS P (Builtin.unsafeString_ #[pt, it] ty #[a, b]) g w σ K := by
  cases hx <;> (try exact False.elim hK)
  case nilp =>
    cases hy <;> (try exact False.elim hK)
    rename_i q k
    cases q <;> (try exact False.elim hK)
    obtain ⟨rfl, hK⟩ := hK
    exact RunS.pure hR (Lib.run_unsafeString_none (P := P) w pt it ty none) (.str []) hK
  case vref el l m lo off h =>
    cases hy <;> (try exact False.elim hK)
    rename_i q k
    cases q <;> (try exact False.elim hK)
    obtain ⟨rfl, rfl, rfl, hK⟩ := hK
    obtain ⟨hl, hm, A, rfl, hA⟩ := h
    split at hK
    · rename_i T el'' xs hxs
      obtain ⟨rfl, rfl, k1, k2, k3, s, k4, hK⟩ := hK
      obtain ⟨o1, o2, o3⟩ := hR.ok l _ hxs
      rcases o3 with ⟨rfl, _, _⟩ | ⟨b, vs, b1, b2, b3, b4, b5, b6⟩
      · simp at k2; omega
      · obtain ⟨a1, a2⟩ := hA o1.symm
        have hb : A.block = b := by rw [a1] at b1; cases b1; rfl
        rw [hb] at a2
        obtain ⟨b6, hz⟩ := b6
        rw [hz] at a2 b3 b5
        simp only [Nat.zero_mul, Nat.zero_add, Nat.add_zero] at a2 b3 b5
        subst a2
        obtain ⟨n, rfl⟩ := Int.eq_ofNat_of_zero_le (Int.le_of_lt k1)
        simp only [Int.toNat_natCast] at k4
        have hn : s.length = n := by
          have := congrArg List.length k4
          simp only [List.length_take, List.length_map] at this
          omega
        have hfit : ∀ i, i < xs.length → el''.sz = 1 := fun i hi => by
          have hf := o2 i hi
          have e1 : i < n ∨ n ≤ i := by omega
          have h0 : 0 < n := by omega
          have hx0 : (xs.take n).getD 0 .undef = (s.map fun b => AV.int .u8 b.toNat).getD 0 .undef := by rw [k4]
          have hs0 : 0 < s.length := by omega
          have hx0' : xs.getD 0 .undef = .int .u8 (s[0]).toNat := by
            have hlt : 0 < xs.length := by omega
            simpa [h0, hs0, hlt] using hx0
          have := o2 0 (by omega)
          rw [hx0'] at this
          simp only [AV.fits, Bool.and_eq_true, beq_iff_eq] at this
          exact this.2
        have hsz : el''.sz = 1 := hfit 0 (by omega)
        rw [hsz, Nat.mul_one] at b3
        have hcell : ∀ j x, s[j]? = some x → w.cell? ((⟨b, 0, none⟩ : Addr).add j) = some (.int .u8 x.toNat) := fun j x hj => by
          have hjl : j < s.length := (List.getElem?_eq_some_iff.1 hj).1
          have hjx : s[j] = x := (List.getElem?_eq_some_iff.1 hj).2
          have h2 := b5 j 0 (by omega) (by omega)
          rw [hsz] at h2
          simp only [Nat.mul_one, Nat.add_zero] at h2
          have e2 : xs.getD j .undef = .int .u8 x.toNat := by
            have : (xs.take n).getD j .undef = (s.map fun b => AV.int .u8 b.toNat).getD j .undef := by rw [k4]
            have hjn : j < n := by omega
            have hjx' : j < xs.length := by omega
            simpa [hjn, hjl, hjx', hjx] using this
          rw [e2] at h2
          have e3 : (⟨b, 0, none⟩ : Addr).add j = ⟨b, j, none⟩ := by
            unfold Addr.add; split
            · rename_i h0; subst h0; rfl
            · simp
          rw [e3, b2.cell (by omega)]
          generalize vs.getD j Go.undef = u at h2
          cases h2; rfl
        have hrun := Lib.run_unsafeString_row (P := P) w pt it ty e hp hc b vs.size b6 s (by intro e; subst e; simp at hn; omega) (by omega) (by omega) hcell
        rw [hn] at hrun
        obtain ⟨f1, f2, f3, f4⟩ := freeze_facts w b n
        obtain ⟨r1, r2⟩ := hR.update (o' := .dead) hxs rfl b1 f1 f2 f3 f4 (fun c hc => heap_freeze_ne w b n hc) (fun _ => trivial)
        exact ⟨_, _, g, .str s, _, hrun, r1, r2, .str s, hK⟩
    · exact hK.elim
theorem p2u_sound {src dst t : TypeId} {i : TypeInfo} {x : AV} {a : Value} (hR : Rel g w σ) (hs : P.underlying src = some (.pointer t)) (hd : P.underlying dst = some .unsafePointer) (hi : P.info? t = some i) (h0 : i.size ≠ 0) (hx : VR g w x a)
    (hK : match (generalizing := false) x with
      | .ref l off => match σ[l]? with
        | some (.cellsT _ cs) => off < cs.length ∧ K (.ref l off) σ
        | _ => False
      | _ => False) : RunS P (convert src dst a) g w σ K := by
  cases hx <;> simp only at hK
  case ref l off h =>
    have hx' : VR g w (.ref l off) a := .ref _ _ _ h
    obtain ⟨hl, A, rfl, hA⟩ := h
    split at hK
    · rename_i T cs hcs
      obtain ⟨hlt, hK⟩ := hK
      obtain ⟨o1, o2, b, vs, o3, o4, o5, o6, _⟩ := hR.ok l _ hcs
      obtain ⟨a1, a2⟩ := hA o1
      have hb : A.block = b := by rw [a1] at o3; cases o3; rfl
      obtain ⟨T', fz, o4, _⟩ := o4
      have hsh : w.shape? A.block = some (T', vs.size) := by simp only [World.shape?, hb, o4]
      refine RunS.pure hR (Lib.run_to_unsafe (P := P) w A hs hd hi h0 hsh (by rw [a2]; show off < vs.size; omega)) hx' hK
    · exact hK.elim
theorem u2p_sound {src dst u : TypeId} {i : TypeInfo} {x : AV} {a : Value} (hR : Rel g w σ) (hs : P.underlying src = some .unsafePointer) (hd : P.underlying dst = some (.pointer u)) (hi : P.info? u = some i) (hx : VR g w x a)
    (hK : match (generalizing := false) x with
      | .ref l off => match σ[l]? with
        | some (.cellsT (some T) cs) => liesAt P P.depth T (cs.length / P.cellsOf T) off u 1 = true ∧ K (.ref l off) σ
        | _ => False
      | _ => False) : RunS P (convert src dst a) g w σ K := by
  cases hx <;> simp only at hK
  case ref l off h =>
    have hx' : VR g w (.ref l off) a := .ref _ _ _ h
    obtain ⟨hl, A, rfl, hA⟩ := h
    split at hK
    · rename_i T cs hcs
      obtain ⟨hlt, hK⟩ := hK
      obtain ⟨o1, o2, b, vs, o3, o4, o5, o6, o7⟩ := hR.ok l _ hcs
      obtain ⟨a1, a2⟩ := hA o1
      have hb : A.block = b := by rw [a1] at o3; cases o3; rfl
      have hsh : w.shape? A.block = some (T, cs.length) := by rw [hb]; exact o7
      have hoff : A.off = off := by rw [a2]
      refine RunS.pure hR (Lib.run_from_unsafe (P := P) w A hs hd hi hsh (by rw [hoff]; exact hlt)) hx' hK
    · exact hK.elim
theorem eqp_sound {op : BinOp} {t te : TypeId} {i : TypeInfo} {x y : AV} {a b : Value} {ox oy : Operand} {ng : Bool} (hop : (op = .eql ∧ ng = false) ∨ (op = .neq ∧ ng = true)) (hR : Rel g w σ) (hu : P.underlying t = some (.pointer te)) (hi : P.info? te = some i) (hx : VR g w x a) (hy : VR g w y b)
    (hK : match (generalizing := false) x, y with
      | .ref l o, .ref l' o' => l = l' ∧ o = o' ∧ match σ[l]? with
        | some (.cellsT _ _) => K (.bool ng.not) σ
        | _ => False
      | _, _ => False) : RunS P (do eqGuard op t ox oy a b; binOp op t a b) g w σ K := by
  cases hx <;> (try exact False.elim hK)
  rename_i l o h
  cases hy <;> (try exact False.elim hK)
  rename_i l' o' h'
  obtain ⟨rfl, rfl, hK⟩ := hK
  obtain ⟨hl, A, rfl, hA⟩ := h
  obtain ⟨_, A', rfl, hA'⟩ := h'
  split at hK
  · rename_i T cs hcs
    obtain ⟨o1, _⟩ := hR.ok l _ hcs
    obtain ⟨a1, a2⟩ := hA o1
    obtain ⟨a3, a4⟩ := hA' o1
    have hAA : A' = A := by
      rw [a1] at a3
      have : A.block = A'.block := Option.some.inj a3
      rw [a2, a4, this]
    subst hAA
    have heq : ∀ d : Nat, (Op.equalIn (d + 1) t (.pointer (some A')) (.pointer (some A'))).run P w = .ok true w := fun d => by
      simp [Op.equalIn, run_underlying hu, sizeOf, typeInfo, hi, run_sameAddr_same]
    refine RunS.pure hR (v := .bool ng.not) ?_ (.bool _) hK
    have hg : (eqGuard op t ox oy (.pointer (some A')) (.pointer (some A'))).run P w = .ok () w := by
      rcases hop with ⟨rfl, _⟩ | ⟨rfl, _⟩ <;> rfl
    simp only [Sem.run_bind, hg, Result.andThen_ok]
    rcases hop with ⟨rfl, rfl⟩ | ⟨rfl, rfl⟩
    · simp [binOp, Op.equal, Op.maxDepth, heq 9999]
    · simp [binOp, Op.equal, Op.maxDepth, heq 9999]
  · exact hK.elim
end
end Go.AM
