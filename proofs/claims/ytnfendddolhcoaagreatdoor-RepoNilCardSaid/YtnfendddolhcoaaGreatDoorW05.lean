/- Part of a proof: see Root. -/
import Derived.Test.YtnfendddolhcoaaGreatDoorW04
import Derived.Laws.StructEq
import Derived.ChangeKeysEq
set_option linter.unnecessarySimpa false
set_option linter.unusedSectionVars false
set_option linter.unusedSimpArgs false
set_option linter.unusedVariables false
namespace Go.AM
section
variable {P : Program} {g : Ghost} {w : World} {σ : Store} {K : AV → Store → Prop}
theorem kdEq_vals {k : Kd} {a b : AV} {r : Bool} (h : kdEq k a b = some r) {v u : Value} (hv : VR g w a v) (hu : VR g w b u) :
    (k = .b ∧ ∃ x y, v = .bool x ∧ u = .bool y ∧ r = (x == y)) ∨ (k = .i ∧ ∃ q x y, v = .int q x ∧ u = .int q y ∧ r = (x == y)) ∨
    (k = .s ∧ ∃ x y : List UInt8, v = .string ⟨x.toArray⟩ ∧ u = .string ⟨y.toArray⟩ ∧ r = (x == y)) := by
  cases k <;> cases hv <;> cases hu <;> simp only [kdEq] at h <;> (try cases h)
  case b.bool.bool.refl x y => exact .inl ⟨rfl, x, y, rfl, rfl, rfl⟩
  case i.int.int q x q' y =>
    split at h
    · rename_i e; subst e; cases h; exact .inr (.inl ⟨rfl, q, x, y, rfl, rfl, rfl⟩)
    · cases h
  case s.str.str.refl x y => exact .inr (.inr ⟨rfl, x, y, rfl, rfl, rfl⟩)
theorem kdsEq_append {k1 k2 : List Kd} {az bs : List AV} {r : Bool} (h : kdsEq (k1 ++ k2) az bs = some r) :
    ∃ r1 r2, kdsEq k1 (az.take k1.length) (bs.take k1.length) = some r1 ∧ kdsEq k2 (az.drop k1.length) (bs.drop k1.length) = some r2 ∧ r = (r1 && r2) := by
  induction k1 generalizing az bs r with
  | nil => exact ⟨true, r, by simp [kdsEq], by simpa using h, by simp⟩
  | cons k ks ih =>
    cases az with
    | nil => cases bs <;> simp [kdsEq] at h
    | cons a az =>
      cases bs with
      | nil => simp [kdsEq] at h
      | cons b bs =>
        simp only [List.cons_append, kdsEq] at h
        split at h
        · rename_i x y h1 h2
          cases h
          obtain ⟨r1, r2, i1, i2, rfl⟩ := ih h2
          exact ⟨x && r1, r2, by simp [kdsEq, h1, i1], by simpa using i2, by simp [Bool.and_assoc]⟩
        · cases h
theorem eqScalar {k : Kd} {a b : AV} {r : Bool} {t : TypeId} {d : TypeDesc} (hu : P.underlying t = some d) (hd : (d = .bool ∧ k = .b) ∨ ((∃ q, d = .int q) ∧ k = .i) ∨ (d = .string ∧ k = .s)) {v u : Value}
    (h : kdsEq [k] [a] [b] = some r) (hv : VR g w a v) (hv' : VR g w b u) (D : Nat) : (Op.equalIn (D + 1) t v u).run P w = .ok r w := by
  simp only [kdsEq] at h
  split at h
  · rename_i x y h1 h2
    cases h2
    cases h
    rcases kdEq_vals h1 hv hv' with ⟨rfl, x', y', rfl, rfl, rfl⟩ | ⟨rfl, q, x', y', rfl, rfl, rfl⟩ | ⟨rfl, x', y', rfl, rfl, rfl⟩
    · rcases hd with ⟨rfl, _⟩ | ⟨_, e⟩ | ⟨_, e⟩
      · simp [run_equalIn_bool' w D t x' y' hu]
      · cases e
      · cases e
    · rcases hd with ⟨_, e⟩ | ⟨⟨q', rfl⟩, _⟩ | ⟨_, e⟩
      · cases e
      · simp [run_equalIn_int w D t q q' x' y' hu]
      · cases e
    · rcases hd with ⟨_, e⟩ | ⟨_, e⟩ | ⟨rfl, _⟩
      · cases e
      · cases e
      · simp [run_equalIn_string w D t _ _ hu, baList]
  · cases h
theorem flat_run : ∀ (d : Nat) (t : TypeId) (ks : List Kd) (D : Nat) (xs ys : Array Value) (o : Nat) (az bs : List AV) (r : Bool), flatKinds P d t = some ks → d ≤ D →
    (∃ i, P.info? t = some i ∧ i.size = ks.length) → az.length = ks.length → bs.length = ks.length → o + ks.length ≤ xs.size → o + ks.length ≤ ys.size →
    (∀ i, i < ks.length → VR g w (az.getD i .undef) (xs.getD (o + i) Go.undef)) → (∀ i, i < ks.length → VR g w (bs.getD i .undef) (ys.getD (o + i) Go.undef)) → kdsEq ks az bs = some r →
    ∃ v u, (part t xs o).run P w = .ok v w ∧ (part t ys o).run P w = .ok u w ∧ (Op.equalIn D t v u).run P w = .ok r w := by
  intro d
  induction d with
  | zero => intro t ks D xs ys o az bs r h; cases h
  | succ d ih =>
    intro t ks D xs ys o az bs r h hD hinfo la lb hx hy ha hb hk
    obtain ⟨ti, hti, hsz⟩ := hinfo
    obtain ⟨D, rfl⟩ : ∃ D', D = D' + 1 := ⟨D - 1, by omega⟩
    have scal : ∀ (k : Kd) (dd : TypeDesc), P.underlying t = some dd → tyAg P t = some false → ks = [k] → ((dd = .bool ∧ k = .b) ∨ ((∃ q, dd = .int q) ∧ k = .i) ∨ (dd = .string ∧ k = .s)) →
        ∃ v u, (part t xs o).run P w = .ok v w ∧ (part t ys o).run P w = .ok u w ∧ (Op.equalIn (D + 1) t v u).run P w = .ok r w := by
      intro k dd hu hA hks hd
      subst hks
      simp only [List.length_singleton] at *
      match az, bs, la, lb with
      | [a], [b], _, _ =>
        have h1 : o < xs.size := by omega
        have h2 : o < ys.size := by omega
        refine ⟨xs.getD o Go.undef, ys.getD o Go.undef, by simp [part, run_isAgg' hA, h1], by simp [part, run_isAgg' hA, h2], ?_⟩
        exact eqScalar hu hd hk (by simpa using ha 0 (by omega)) (by simpa using hb 0 (by omega)) D
    simp only [flatKinds] at h
    split at h
    · rename_i hu; cases h; exact scal .b _ hu (by simp [tyAg, hu]) rfl (.inl ⟨rfl, rfl⟩)
    · rename_i q hu; cases h; exact scal .i _ hu (by simp [tyAg, hu]) rfl (.inr (.inl ⟨⟨q, rfl⟩, rfl⟩))
    · rename_i hu; cases h; exact scal .s _ hu (by simp [tyAg, hu]) rfl (.inr (.inr ⟨rfl, rfl⟩))
    · rename_i fs hu
      split at h
      · cases h
      · rename_i hst
        have hA : tyAg P t = some true := by simp [tyAg, hu]
        refine ⟨.agg (xs.extract o (o + ti.size)), .agg (ys.extract o (o + ti.size)), by simp [part, run_isAgg' hA, run_sizeOf' hti], by simp [part, run_isAgg' hA, run_sizeOf' hti], ?_⟩
        have hfo : P.fieldsOf t = fs := by simp [Program.fieldsOf, hu]
        rw [run_equalIn_struct w D t _ _ (by rw [hfo]; exact hu) (by simpa using hst), hfo]
        have key : ∀ (l : List Field) (off : Nat) (ks : List Kd) (az bs : List AV) (r : Bool) (X Y : Array Value), fieldsKinds P (flatKinds P d) off l = some ks → az.length = ks.length → bs.length = ks.length →
            off + ks.length ≤ X.size → off + ks.length ≤ Y.size → (∀ i, i < ks.length → VR g w (az.getD i .undef) (X.getD (off + i) Go.undef)) → (∀ i, i < ks.length → VR g w (bs.getD i .undef) (Y.getD (off + i) Go.undef)) →
            kdsEq ks az bs = some r → (Op.eqFields D X Y l).run P w = .ok r w := by
          intro l
          induction l with
          | nil =>
            intro off ks az bs r X Y h la lb _ _ _ _ hk
            cases h
            cases az <;> cases bs <;> simp [kdsEq] at hk
            subst hk
            rfl
          | cons f fs ihl =>
            intro off ks az bs r X Y h la lb hx hy ha hb hk
            simp only [fieldsKinds] at h
            split at h
            · cases h
            · rename_i hne
              simp only [Bool.or_eq_true, beq_iff_eq, bne_iff_ne, not_or, Decidable.not_not] at hne
              obtain ⟨hn, rfl⟩ := hne
              split at h
              · rename_i k1 fi hk1 hfi
                split at h
                · rename_i hs1
                  simp only [Option.map_eq_some_iff] at h
                  obtain ⟨k2, hk2, rfl⟩ := h
                  simp only [List.length_append] at *
                  obtain ⟨r1, r2, e1, e2, rfl⟩ := kdsEq_append hk
                  obtain ⟨v, u, p1, p2, p3⟩ := ih f.type k1 D X Y f.offset (az.take k1.length) (bs.take k1.length) r1 hk1 (by omega) ⟨fi, hfi, by simpa using hs1⟩ (by simp; omega) (by simp; omega) (by omega) (by omega)
                    (fun i hi => by have := ha i (by omega); simpa [List.getElem?_take, hi] using this) (fun i hi => by have := hb i (by omega); simpa [List.getElem?_take, hi] using this) e1
                  have ih2 := ihl (f.offset + k1.length) k2 (az.drop k1.length) (bs.drop k1.length) r2 X Y hk2 (by simp; omega) (by simp; omega) (by omega) (by omega)
                    (fun i hi => by have := ha (k1.length + i) (by omega); simpa [Nat.add_assoc] using this) (fun i hi => by have := hb (k1.length + i) (by omega); simpa [Nat.add_assoc] using this) e2
                  simp only [Op.eqFields, if_pos (show f.name ≠ "_" from hn), Sem.run_bind, p1, p2, p3, Result.andThen_ok]
                  cases r1
                  · simp
                  · simpa using ih2
                · cases h
              · cases h
        refine key fs.toList 0 ks az bs r _ _ h la lb (by simp; omega) (by simp; omega) (fun i hi => ?_) (fun i hi => ?_) hk
        · have h3 : i < (xs.extract o (o + ti.size)).size := by simp; omega
          have h4 : o + i < xs.size := by omega
          have := ha i hi
          rw [← Array.getElem_eq_getD (h := h4)] at this
          rw [Nat.zero_add, ← Array.getElem_eq_getD (h := h3), Array.getElem_extract]
          exact this
        · have h3 : i < (ys.extract o (o + ti.size)).size := by simp; omega
          have h4 : o + i < ys.size := by omega
          have := hb i hi
          rw [← Array.getElem_eq_getD (h := h4)] at this
          rw [Nat.zero_add, ← Array.getElem_eq_getD (h := h3), Array.getElem_extract]
          exact this
    · rename_i n e hu
      split at h
      · rename_i k1 fi hk1 hfi
        split at h
        · rename_i hs1
          cases h
          simp only [Bool.and_eq_true, beq_iff_eq] at hs1
          obtain ⟨hs1, hs2⟩ := hs1
          have hA : tyAg P t = some true := by simp [tyAg, hu]
          refine ⟨.agg (xs.extract o (o + ti.size)), .agg (ys.extract o (o + ti.size)), by simp [part, run_isAgg' hA, run_sizeOf' hti], by simp [part, run_isAgg' hA, run_sizeOf' hti], ?_⟩
          rw [Go.run_equalIn_array w D _ _ hu hfi, hs2]
          have key : ∀ (m j : Nat) (az bs : List AV) (r : Bool) (X Y : Array Value), az.length = m * k1.length → bs.length = m * k1.length →
              (j + m) * k1.length ≤ X.size → (j + m) * k1.length ≤ Y.size → (∀ i, i < m * k1.length → VR g w (az.getD i .undef) (X.getD (j * k1.length + i) Go.undef)) → (∀ i, i < m * k1.length → VR g w (bs.getD i .undef) (Y.getD (j * k1.length + i) Go.undef)) →
              kdsEq (List.replicate m k1).flatten az bs = some r → (Go.Op.eqItems D e k1.length X Y (List.range' j m)).run P w = .ok r w := by
            intro m
            induction m with
            | zero =>
              intro j az bs r X Y la lb _ _ _ _ hk
              rw [Nat.zero_mul] at la lb
              rw [List.eq_nil_of_length_eq_zero la, List.eq_nil_of_length_eq_zero lb] at hk
              simp [kdsEq] at hk
              subst hk
              rfl
            | succ m ihm =>
              intro j az bs r X Y la lb hx hy ha hb hk
              rw [List.replicate_succ, List.flatten_cons] at hk
              rw [Nat.succ_mul] at la lb
              have hjm : (j + (m + 1)) * k1.length = j * k1.length + m * k1.length + k1.length := by rw [Nat.add_mul, Nat.succ_mul]; omega
              have hj1 : (j + 1) * k1.length = j * k1.length + k1.length := Nat.succ_mul _ _
              have hj2 : (j + 1 + m) * k1.length = j * k1.length + k1.length + m * k1.length := by rw [Nat.add_mul, hj1]
              rw [hjm] at hx hy
              have hmm : (m + 1) * k1.length = m * k1.length + k1.length := Nat.succ_mul _ _
              rw [hmm] at ha hb
              obtain ⟨r1, r2, e1, e2, rfl⟩ := kdsEq_append hk
              obtain ⟨v, u, p1, p2, p3⟩ := ih e k1 D X Y (j * k1.length) (az.take k1.length) (bs.take k1.length) r1 hk1 (by omega) ⟨fi, hfi, hs1⟩ (by simp; omega) (by simp; omega) (by omega) (by omega)
                (fun i hi => by have := ha i (by omega); simpa [List.getElem?_take, hi] using this) (fun i hi => by have := hb i (by omega); simpa [List.getElem?_take, hi] using this) e1
              have ih2 := ihm (j + 1) (az.drop k1.length) (bs.drop k1.length) r2 X Y (by simp; omega) (by simp; omega) (by omega) (by omega)
                (fun i hi => by have := ha (k1.length + i) (by omega); rw [hj1]; simpa [Nat.add_assoc] using this) (fun i hi => by have := hb (k1.length + i) (by omega); rw [hj1]; simpa [Nat.add_assoc] using this) e2
              rw [List.range'_succ]
              simp only [Go.Op.eqItems, Sem.run_bind, p1, p2, p3, Result.andThen_ok]
              cases r1
              · simp
              · simpa using ih2
          have hlen : (List.replicate n k1).flatten.length = n * k1.length := by simp
          rw [hlen] at hsz la lb hx hy
          rw [List.range_eq_range']
          refine key n 0 az bs r _ _ la lb (by simp; omega) (by simp; omega) (fun i hi => ?_) (fun i hi => ?_) hk
          · have h3 : i < (xs.extract o (o + ti.size)).size := by simp; omega
            have h4 : o + i < xs.size := by omega
            have := ha i (by rw [hlen]; exact hi)
            rw [← Array.getElem_eq_getD (h := h4)] at this
            rw [Nat.zero_mul, Nat.zero_add, ← Array.getElem_eq_getD (h := h3), Array.getElem_extract]
            exact this
          · have h3 : i < (ys.extract o (o + ti.size)).size := by simp; omega
            have h4 : o + i < ys.size := by omega
            have := hb i (by rw [hlen]; exact hi)
            rw [← Array.getElem_eq_getD (h := h4)] at this
            rw [Nat.zero_mul, Nat.zero_add, ← Array.getElem_eq_getD (h := h3), Array.getElem_extract]
            exact this
        · cases h
      · cases h
    · cases h
end
end Go.AM
namespace Go.AM
section
variable {P : Program} {g : Ghost} {w : World} {σ : Store} {K : AV → Store → Prop}
theorem eqf_sound {op : BinOp} {t : TypeId} {ks : List Kd} {ag : Bool} {i : TypeInfo} {x y : AV} {a b : Value} {ox oy : Operand} (hop : op = .eql ∨ op = .neq) (hR : Rel g w σ) (hf : flatKinds P 12 t = some ks) (hA : tyAg P t = some ag) (hi : P.info? t = some i)
    (hs : i.size = ks.length) (hg : ag = true → P.eqGuardType P.depth t = false) (hx : VR g w x a) (hy : VR g w y b)
    (hK : match (generalizing := false) (if ag then (match (generalizing := false) x, y with | .agg az, .agg bs => kdsEq ks az bs | _, _ => none) else kdsEq ks [x] [y]) with
      | some r => K (.bool (if op = .neq then !r else r)) σ
      | none => False) : RunS P (do eqGuard op t ox oy a b; binOp op t a b) g w σ K := by
  have len1 : ∀ (ks : List Kd) (az bs : List AV) (r : Bool), kdsEq ks az bs = some r → az.length = ks.length ∧ bs.length = ks.length := by
    intro ks
    induction ks with
    | nil => intro az bs r h; cases az <;> cases bs <;> simp [kdsEq] at h ⊢
    | cons k ks ih =>
      intro az bs r h
      cases az <;> cases bs <;> simp only [kdsEq] at h <;> (try cases h)
      split at h
      · rename_i h1 h2; have := ih _ _ _ h2; simp [this.1, this.2]
      · cases h
  cases ag with
  | true =>
    simp only [if_true] at hK
    cases hx <;> (try exact False.elim hK)
    cases hy <;> (try exact False.elim hK)
    case agg.agg az vs hl hsc h bs us hl' hsc' h' =>
      simp only at hK
      split at hK
      · rename_i r hr
        obtain ⟨l1, l2⟩ := len1 _ _ _ _ hr
        obtain ⟨v, u, p1, p2, p3⟩ := flat_run (P := P) (g := g) (w := w) 12 t ks 10000 vs us 0 az bs r hf (by omega) ⟨i, hi, hs⟩ l1 l2 (by omega) (by omega)
          (fun j hj => by simpa using h j (by omega)) (fun j hj => by simpa using h' j (by omega)) hr
        have e1 : v = .agg vs := by
          have : (part t vs 0).run P w = .ok (.agg (vs.extract 0 (0 + i.size))) w := by simp [part, run_isAgg' hA, run_sizeOf' hi]
          rw [this] at p1; cases p1
          rw [Nat.zero_add, show i.size = vs.size by omega]; simp
        have e2 : u = .agg us := by
          have : (part t us 0).run P w = .ok (.agg (us.extract 0 (0 + i.size))) w := by simp [part, run_isAgg' hA, run_sizeOf' hi]
          rw [this] at p2; cases p2
          rw [Nat.zero_add, show i.size = us.size by omega]; simp
        subst e1; subst e2
        refine RunS.pure hR (v := .bool (if op = .neq then !r else r)) ?_ (.bool _) hK
        simp only [Sem.run_bind, run_eqGuard_agg w op t ox oy vs us (hg rfl), Result.andThen_ok]
        rcases hop with rfl | rfl
        · rw [run_eql_struct, p3]; rfl
        · rw [run_neq_struct, p3]; rfl
      · exact hK.elim
  | false =>
    simp only [Bool.false_eq_true, if_false] at hK
    split at hK
    · rename_i r hr
      obtain ⟨l1, l2⟩ := len1 _ _ _ _ hr
      simp only [List.length_singleton] at l1
      match ks, l1 with
      | [k], _ =>
        have hd : ∃ d, P.underlying t = some d ∧ ((d = .bool ∧ k = .b) ∨ ((∃ q, d = .int q) ∧ k = .i) ∨ (d = .string ∧ k = .s)) := by
          unfold flatKinds at hf
          split at hf
          · rename_i hu; cases hf; exact ⟨_, hu, .inl ⟨rfl, rfl⟩⟩
          · rename_i q hu; cases hf; exact ⟨_, hu, .inr (.inl ⟨⟨q, rfl⟩, rfl⟩)⟩
          · rename_i hu; cases hf; exact ⟨_, hu, .inr (.inr ⟨rfl, rfl⟩)⟩
          · rename_i fs hu; simp [tyAg, hu] at hA
          · rename_i n e hu; simp [tyAg, hu] at hA
          · cases hf
        obtain ⟨d, hu, hd⟩ := hd
        simp only [kdsEq] at hr
        split at hr
        · rename_i r1 r2 h1 h2
          cases h2; cases hr
          simp only [Bool.and_true] at *
          rcases kdEq_vals h1 hx hy with ⟨rfl, x', y', rfl, rfl, rfl⟩ | ⟨rfl, q, x', y', rfl, rfl, rfl⟩ | ⟨rfl, x', y', rfl, rfl, rfl⟩
          · rcases hd with ⟨rfl, _⟩ | ⟨_, e⟩ | ⟨_, e⟩
            · refine RunS.pure hR (v := .bool (if op = .neq then !(x' == y') else (x' == y'))) ?_ (.bool _) hK
              rcases hop with rfl | rfl <;> simp [eqGuard, binOp, Op.equal, Op.maxDepth, run_equalIn_bool' w 9999 t x' y' hu]
            · cases e
            · cases e
          · refine RunS.pure hR (v := .bool (if op = .neq then !(x' == y') else (x' == y'))) ?_ (.bool _) hK
            rcases hop with rfl | rfl <;> simp [eqGuard, binOp, Op.intCmp, bne]
          · refine RunS.pure hR (v := .bool (if op = .neq then !(x' == y') else (x' == y'))) ?_ (.bool _) hK
            rcases hop with rfl | rfl <;> simp [eqGuard, binOp, Op.stringOp, baList]
        · cases hr
    · exact hK.elim
theorem bing_sound {op : BinOp} {t : TypeId} {x y : AV} {a b : Value} {ox oy : Operand} (hR : Rel g w σ) (hx : VR g w x a) (hy : VR g w y b)
    (hK : binA op x y fun v => K v σ) : RunS P (do eqGuard op t ox oy a b; binOp op t a b) g w σ K := by
  have hg : (eqGuard op t ox oy a b).run P w = .ok () w := by
    cases hx <;> cases hy <;> (try (cases op <;> exact hK.elim)) <;> cases op <;> rfl
  obtain ⟨v, w', g', av, σ', h1, h2⟩ := bin_sound (P := P) (t := t) hR hx hy hK
  exact ⟨v, w', g', av, σ', by simp only [Sem.run_bind, hg, Result.andThen_ok, h1], h2⟩
theorem isNil_ptr {elem : TypeId} {t : TypeId} (hu : P.underlying t = some (.pointer elem)) (p : Option Addr) (D : Nat) :
    (Op.equalIn (D + 1) t (.pointer none) (.pointer p)).run P w = .ok p.isNone w ∧ (Op.equalIn (D + 1) t (.pointer p) (.pointer none)).run P w = .ok p.isNone w := by
  constructor
  · simp [Op.equalIn, run_underlying' hu]
  · cases p <;> simp [Op.equalIn, run_underlying' hu]
theorem fill_sound (place : Nat → Option (Nat × Nat)) {e : Env} {a : Act} {nt : Nat} (hE : EnvR nt g w e a.tmps) : ∀ (parts : List (Nat × Operand)) (ps : List ((Nat × Nat) × AX)) (cs : List AV) (vs : Array Value) (K : List AV → Prop),
    cParts nt place parts = some ps → cs.length = vs.size → (∀ i, i < cs.length → VR g w (cs.getD i .undef) (vs.getD i Go.undef)) → cs.all AV.scalar = true →
    buildA cs e (ps.map fun p => (p.1.1, p.1.2, p.2)) K →
    ∃ cs' us, Instr.fill place vs (parts.map fun p => (p.1, a.eval p.2)) = some us ∧ cs'.length = us.size ∧ (∀ i, i < cs'.length → VR g w (cs'.getD i .undef) (us.getD i Go.undef)) ∧ cs'.all AV.scalar = true ∧ us.size = vs.size ∧ K cs' := by
  intro parts
  induction parts with
  | nil =>
    intro ps cs vs K h hl hr hs hK
    cases h
    exact ⟨cs, vs, rfl, hl, hr, hs, rfl, hK⟩
  | cons p parts ih =>
    intro ps cs vs K h hl hr hs hK
    obtain ⟨i, x⟩ := p
    simp only [cParts] at h
    split at h
    · rename_i q ax ps' h1 h2 h3
      cases h
      obtain ⟨off, n⟩ := q
      simp only [List.map_cons, buildA] at hK
      obtain ⟨k1, k2, k3, k4⟩ := hK
      have hv := cX_rel h2 hE
      obtain ⟨c1, c2⟩ := cells_rel hv k2
      have hput : ∀ (us : List Value) (vs : Array Value) (j : Nat), off + j + us.length ≤ vs.size → (us.zipIdx j).foldl (fun cs (p : Value × Nat) => cs.setIfInBounds (off + p.2) p.1) vs = putRow vs (off + j) us := by
        intro us
        induction us with
        | nil => intros; rfl
        | cons u us ih =>
          intro vs j hh
          simp only [List.length_cons] at hh
          simp only [List.zipIdx_cons, List.foldl_cons, putRow]
          exact ih _ (j + 1) (by simp; omega)
      have hfold : (a.eval x).cells.zipIdx.foldl (fun cs (p : Value × Nat) => cs.setIfInBounds (off + p.2) p.1) vs = putRow vs off (a.eval x).cells.toList := by
        have := hput (a.eval x).cells.toList vs 0 (by simp; omega)
        rw [← Array.foldl_toList, Array.toList_zipIdx]
        simpa using this
      obtain ⟨cs', us, r1, r2, r3, r4, r5, r6⟩ := ih ps' (setMany cs off (ax.ev e).cells) (putRow vs off (a.eval x).cells.toList) K h3 (by rw [length_setMany, size_putRow]; exact hl)
        (fun j hj => by
          rw [length_setMany] at hj
          rw [getD_setMany _ _ _ (by omega), getD_putRow _ _ _ (by simp; omega)]
          simp only [Array.length_toList, ← c1]
          split
          · rename_i hh
            simpa using c2 (j - off) (by omega)
          · exact hr j hj) (all_setMany hs off k2) k4
      refine ⟨cs', us, ?_, r2, r3, r4, by rw [r5, size_putRow], r6⟩
      simp only [List.map_cons, Instr.fill, h1]
      have e1 : ¬ ((a.eval x).cells.size ≠ n ∨ vs.size < off + (a.eval x).cells.size) := by omega
      rw [if_neg (by simpa using e1), hfold]
      exact r1
    · cases h
theorem build_struct_sound {t : TypeId} {fs : Array Field} {z : AV} {e : Env} {a : Act} {nt : Nat} {parts : Array (Nat × Operand)} {ps : List ((Nat × Nat) × AX)} (hR : Rel g w σ) (hE : EnvR nt g w e a.tmps)
    (hz : tyZero P t = some z) (hzs : z.cells.all AV.scalar = true) (hu : P.underlying t = some (.struct fs)) (hfs : fs.toList.all (fun f => (P.info? f.type).isSome) = true)
    (hp : cParts nt (fun i => (fs[i]?).map fun f => (f.offset, P.cellsOf f.type)) parts.toList = some ps)
    (hK : buildA z.cells e (ps.map fun p => (p.1.1, p.1.2, p.2)) fun cs => K (.agg cs) σ) : RunS P (Instr.build t (parts.map fun (i, x) => (i, a.eval x))) g w σ K := by
  obtain ⟨v, h1, h2⟩ := run_zero hz w
  obtain ⟨h3, h4⟩ := h2 g w
  obtain ⟨h5, h6⟩ := cells_rel h3 h4
  have hplaces : ∀ (l : List Field), l.all (fun f => (P.info? f.type).isSome) = true → (l.mapM fun f => (do pure (f.offset, ← sizeOf f.type) : Sem (Nat × Nat))).run P w = .ok (l.map fun f => (f.offset, P.cellsOf f.type)) w := by
    intro l
    induction l with
    | nil => intro _; rfl
    | cons f l ih =>
      intro h
      simp only [List.all_cons, Bool.and_eq_true, Option.isSome_iff_exists] at h
      obtain ⟨⟨i, hi⟩, h'⟩ := h
      simp only [List.mapM_cons, Sem.run_bind, run_sizeOf' hi, Result.andThen_ok, Sem.run_pure, ih h', List.map_cons, Program.cellsOf, hi, Option.map_some, Option.getD_some]
  obtain ⟨cs', us, r1, r2, r3, r4, r5, r6⟩ := fill_sound (fun i => (fs[i]?).map fun f => (f.offset, P.cellsOf f.type)) hE parts.toList ps z.cells v.cells _ hp h5 h6 h4 hK
  refine RunS.pure hR (v := .agg us) ?_ (.agg cs' us r2 r4 r3) r6
  have hm : (fs.mapM fun f => (do pure (f.offset, ← sizeOf f.type) : Sem (Nat × Nat))).run P w = .ok (fs.map fun f => (f.offset, P.cellsOf f.type)) w := by
    have := hplaces fs.toList hfs
    rw [Array.mapM_eq_mapM_toList]
    simp only [Sem.run_map, this, Result.andThen_ok]
    congr 1
    apply Array.ext'
    simp
  simp only [Instr.build, Sem.run_bind, h1, Result.andThen_ok, run_underlying' hu, hm]
  have hfill : Instr.fill (fun i => (fs.map fun f => (f.offset, P.cellsOf f.type))[i]?) v.cells (parts.map fun (i, x) => (i, a.eval x)).toList = some us := by
    rw [← r1]
    congr 1
    · funext i; simp
    · simp
  rw [hfill]
  rfl
end
end Go.AM
