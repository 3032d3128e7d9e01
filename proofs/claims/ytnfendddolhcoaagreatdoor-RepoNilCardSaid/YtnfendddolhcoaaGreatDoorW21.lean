/- Part of a proof: see Root. -/
import Derived.Test.YtnfendddolhcoaaGreatDoorW20
set_option linter.unnecessarySimpa false
set_option linter.unusedSectionVars false
set_option linter.unusedSimpArgs false
set_option linter.unusedVariables false
namespace Go.AM.B
variable [LV]
theorem no {p : Prop} {x : Bool} (h : x = true) (e : x = false) : p := by rw [e] at h; cases h
theorem partK_ok {el : El} {x : AV} {off : Nat} {ag : Bool} {n : Nat} {K : AV → Bool} {K' : AV → Prop} (h : partK el x off ag n K = true) (hK : ∀ v, K v = true → K' v) : partOf el x off ag n K' := by
  cases el with | mk a z =>
  replace h : iK (bK (Nat.beq off 0) (bK (Nat.beq n z) (beqB ag a))) (K x)
      (bK (Nat.ble (Nat.add off n) z) (onAgg x fun cs => iK ag (cutK cs off n fun ds => K (.agg ds)) (bK (Nat.beq n 1) (nthK .undef cs off K)))) = true := h
  unfold partOf
  rw [iK_eq] at h
  by_cases hc : off = 0 ∧ n = z ∧ ag = a
  · rw [if_pos hc]
    rw [if_pos (by rw [bK_iff, bK_iff, nbeq, nbeq, beqB_eq]; simpa using hc)] at h
    exact hK _ h
  · rw [if_neg hc]
    rw [if_neg (by rw [bK_iff, bK_iff, nbeq, nbeq, beqB_eq]; simpa using hc), bK_iff, nble, decide_eq_true_eq] at h
    refine ⟨h.1, ?_⟩
    obtain ⟨cs, rfl, h2⟩ := onAgg_ok h.2
    rw [iK_eq] at h2
    cases ag with
    | true => rw [if_pos rfl, cutK_eq] at h2; exact ⟨hK _ h2, fun h => (by cases h)⟩
    | false => rw [if_neg (by simp), bK_iff, nbeq, nthK_eq] at h2; exact ⟨hK _ h2.2, fun _ => h2.1⟩
theorem vecK_ok {el : El} {l m : Nat} {s : St} {K : Option TypeId → Tr AV → Bool} (h : vecK el l m s K = true) : ∃ T t, s.abs[l]? = some (.vecT T el (lst .undef 0 m t)) ∧ K T t = true := by
  obtain ⟨o, ho, h1⟩ := St.getK_ok h
  obtain ⟨T, el', k, t, rfl, h2⟩ := onVec_ok h1
  rw [bK_iff, bK_iff, elEq_iff, nbeq] at h2
  obtain ⟨rfl, rfl, h3⟩ := h2
  exact ⟨T, t, ho, h3⟩
theorem loadK_ok {p : AV} {s : St} {ag : Bool} {n : Nat} {K : AV → Bool} {K' : AV → Prop} (h : loadK p s ag n K = true) (hK : ∀ v, K v = true → K' v) : loadA s.abs ag n p K' := by
  cases p <;> first | exact no h rfl | skip
  case ref l off =>
    obtain ⟨o, ho, ha⟩ := St.getK_ok (show loadR l off s ag n K = true from h)
    clear h
    obtain ⟨T, m, t, rfl, h⟩ := onCells_ok ha
    clear ha
    rw [bK_iff, nble, decide_eq_true_eq, iK_eq] at h
    obtain ⟨h1, h⟩ := h
    have h1 : off + n ≤ m := h1
    simp only [loadA, ho, OB.abs]
    refine ⟨by rw [lst_length]; exact h1, ?_⟩
    cases ag with
    | true => rw [if_pos rfl, lstK_eq] at h; exact ⟨fun h => (by cases h), by rw [if_pos rfl, lst_cut _ h1]; exact hK _ h⟩
    | false => rw [if_neg (by simp), bK_iff, nbeq, Tr.getK_eq] at h; exact ⟨fun _ => h.1, by rw [if_neg (by simp), lst_get _ (by omega), Nat.zero_add]; exact hK _ h.2⟩
  case eref el x off => exact partK_ok h hK
  case vref el l m i off =>
    replace h : loadV el l m i off s ag n K = true := h
    obtain ⟨T, t, ho, h⟩ := vecK_ok h
    rw [bK_iff, nble, decide_eq_true_eq, Tr.getK_eq] at h
    simp only [loadA, ho]
    exact ⟨trivial, by rw [lst_length], by rw [lst_length]; exact h.1, by rw [lst_get _ h.1, Nat.zero_add]; exact partK_ok h.2 hK⟩
theorem storeK_ok {s : St} {n : Nat} {p v : AV} {K : St → Bool} {K' : Store → Prop} (h : storeK s n p v K = true) (hK : ∀ s', K s' = true → K' s'.abs) : storeA s.abs n p v K' := by
  replace h : cellsK v (fun cs => bK (lenK cs 0 (Nat.beq n)) (bK (allB scalB cs) (storeP p s v cs n K))) = true := h
  rw [cellsK_eq, bK_iff, bK_iff, len0, nbeq, allScal] at h
  obtain ⟨h1, h2, h⟩ := h
  refine ⟨h1.symm, h2, ?_⟩
  cases p <;> first | exact no h rfl | skip
  case ref l off =>
    obtain ⟨o, ho, ha⟩ := St.getK_ok (show storeR l off s v.cells n K = true from h)
    clear h
    obtain ⟨T, m, t, rfl, h⟩ := onCells_ok ha
    clear ha
    rw [bK_iff, nble, decide_eq_true_eq] at h
    obtain ⟨h3, h⟩ := h
    have h3 : off + n ≤ m := h3
    obtain ⟨k, t', h4, h5⟩ := ofK_set (n := m) (by omega) h
    obtain ⟨s', h6, h7⟩ := St.setK_ok h4
    simp only [ho, OB.abs] at h6 ⊢
    rw [h5] at h6
    exact ⟨by rw [lst_length]; exact h3, by rw [← h6]; exact hK _ h7⟩
  case vref el l m i off =>
    replace h : storeV el l m i off s v v.cells n K = true := h
    obtain ⟨T, t, ho, h⟩ := vecK_ok h
    rw [bK_iff, nble, decide_eq_true_eq] at h
    obtain ⟨h3, h⟩ := h
    cases el with | mk a z =>
    replace h : bK (Nat.ble (Nat.add off n) z)
      (iK a (Tr.getK .undef t i fun x => cellsK x fun ds => setManyK v.cells off ds fun es => Tr.setK .undef 60 t i (.agg es) fun t' => s.setK l (.vec T ⟨a, z⟩ m t') K)
        (bK (fitsB v ⟨a, z⟩) (Tr.setK .undef 60 t i v fun t' => s.setK l (.vec T ⟨a, z⟩ m t') K))) = true := h
    rw [bK_iff, nble, decide_eq_true_eq, iK_eq] at h
    obtain ⟨h4, h⟩ := h
    simp only [ho]
    refine ⟨trivial, by rw [lst_length], by rw [lst_length]; exact h3, h4, ?_⟩
    cases a with
    | true =>
      rw [if_pos rfl, Tr.getK_eq, cellsK_eq, setManyK_eq] at h
      obtain ⟨t', h5, h6⟩ := setK_lst h3 h
      obtain ⟨s', h7, h8⟩ := St.setK_ok h5
      refine ⟨fun h => (by cases h), ?_⟩
      rw [if_pos rfl, lst_get _ h3, Nat.zero_add]
      simp only [OB.abs] at h7
      rw [h6] at h7
      rw [← h7]; exact hK _ h8
    | false =>
      rw [if_neg (by simp), bK_iff, fitsB_eq] at h
      obtain ⟨t', h5, h6⟩ := setK_lst h3 h.2
      obtain ⟨s', h7, h8⟩ := St.setK_ok h5
      refine ⟨fun _ => h.1, ?_⟩
      rw [if_neg (by simp)]
      simp only [OB.abs] at h7
      rw [h6] at h7
      rw [← h7]; exact hK _ h8
theorem byteAV_eq (b : List UInt8) (K : List AV → Bool) : byteAV b K = K (b.map fun b => .int .u8 b.toNat) := mapK_eq (fun a K => by rw [fN_eq]; rfl) b K
theorem listK_ok {x : AV} {s : St} {el : El} {K : List AV → Bool} {K' : List AV → Prop} (h : listK x s el K = true) (hK : ∀ l, K l = true → K' l) : listA s.abs el x K' := by
  cases x <;> first | exact no h rfl | skip
  case nils => exact hK _ h
  case lst f el' xs => obtain ⟨h1, h2⟩ := bK_iff.1 (show bK (elEq el' el) (K xs) = true from h); exact ⟨elEq_iff.1 h1, hK _ h2⟩
  case own el' l m lo n =>
    obtain ⟨h1, h2⟩ := bK_iff.1 (show bK (elEq el' el) (vecK el l m s fun _ t => bK (Nat.ble (Nat.add lo n) m) (lstK .undef n lo t K)) = true from h)
    refine ⟨elEq_iff.1 h1, ?_⟩
    obtain ⟨T, t, ho, h⟩ := vecK_ok h2
    rw [bK_iff, nble, decide_eq_true_eq, lstK_eq] at h
    simp only [ho]
    exact ⟨trivial, by rw [lst_length], by rw [lst_cut _ h.1]; exact hK _ h.2⟩
  case str b =>
    obtain ⟨h1, h2⟩ := bK_iff.1 (show bK (elEq el el8) (byteAV b K) = true from h)
    rw [byteAV_eq] at h2
    exact ⟨elEq_iff.1 h1, hK _ h2⟩
  case asl el' p n =>
    obtain ⟨h1, h2⟩ := bK_iff.1 (show bK (elEq el' el) (bK (elEq el el8) (loadK p s true n fun v => cellsK v K)) = true from h)
    rw [bK_iff] at h2
    exact ⟨elEq_iff.1 h1, elEq_iff.1 h2.1, loadK_ok (K' := fun v => K' v.cells) h2.2 fun v hv => by rw [cellsK_eq] at hv; exact hK _ hv⟩
theorem roomB_ok {n : Nat} {el : El} (h : roomB n el = true) : roomOk n el := by
  cases el with | mk a z =>
  replace h : Nat.ble (Nat.mul n (Nat.succ z)) 1099511627776 = true := h
  rw [nble, decide_eq_true_eq] at h
  exact h
theorem newVec_ok {T : Option TypeId} {el : El} {ys : List AV} {s : St} {K : AV → St → Bool} (h : newVec T el ys s K = true) : roomOk ys.length el ∧ ∃ s', s'.abs = s.abs ++ [.vecT T el ys] ∧ K (.own el s.abs.length ys.length 0 ys.length) s' = true := by
  obtain ⟨t, h1, h2⟩ := ofK_nil _ h
  rw [bK_iff] at h1
  obtain ⟨s', h3, h4⟩ := St.pushK_ok h1.2
  exact ⟨roomB_ok h1.1, s', by rw [h3]; simp only [OB.abs, h2], h4⟩
theorem tyMay_ok {a b : Option TypeId} (h : tyMay a b = true) : a = none ∨ a = b := by
  cases a with
  | none => exact .inl rfl
  | some x => cases b with
    | none => exact no h rfl
    | some y => exact .inr (by rw [nbeq.1 (show Nat.beq x y = true from h)])
theorem appK_ok {s : St} {T : Option TypeId} {el : El} {x y : AV} {K : AV → St → Bool} {K' : AV → Store → Prop} (hh : appK s T el x y K = true) (hK : ∀ v s', K v s' = true → K' v s'.abs) : appA s.abs T el x y K' := by
  refine listK_ok (K := fun ys => bK (allB (fun a => fitsB a el) ys) (appP x T el ys s K)) hh fun ys h => ?_
  clear hh
  rw [bK_iff, allB_eq] at h
  obtain ⟨h1, h⟩ := h
  refine ⟨by rw [← h1]; congr 1; funext a; exact (fitsB_eq a el).symm, ?_⟩
  have nil : ∀ {x : Bool} {y z : Bool}, iK (isNilL ys) y z = true → (ys = [] ∧ y = true) ∨ (ys ≠ [] ∧ z = true) := fun {x y z} h => by
    cases ys with
    | nil => exact .inl ⟨rfl, h⟩
    | cons => exact .inr ⟨by simp, h⟩
  cases x <;> first | exact no h rfl | skip
  case nils =>
    replace h : iK (isNilL ys) (K .nils s) (newVec T el ys s K) = true := h
    rcases nil (x := true) h with ⟨rfl, ha⟩ | ⟨h0, h⟩
    · exact hK _ _ ha
    · show (if ys.length = 0 then K' .nils s.abs else _)
      rw [if_neg (by simpa using h0)]
      obtain ⟨h2, s', h3, h4⟩ := newVec_ok h
      exact ⟨h2, by rw [← h3]; exact hK _ _ h4⟩
  case lst f el' xs =>
    replace h : bK f (bK (elEq el' el) (iK (isNilL ys) (K (.lst true el xs) s) (appendK xs ys fun zs => newVec T el zs s K))) = true := h
    rw [bK_iff, bK_iff, elEq_iff] at h
    obtain ⟨rfl, rfl, h⟩ := h
    refine ⟨rfl, ?_⟩
    rcases nil (x := true) h with ⟨rfl, ha⟩ | ⟨h0, h⟩
    · rw [if_pos (by rfl)]; exact hK _ _ ha
    · rw [if_neg (by simpa using h0)]
      rw [appendK_eq] at h
      obtain ⟨h2, s', h3, h4⟩ := newVec_ok h
      rw [List.length_append] at h2 h4
      exact ⟨h2, by rw [← h3]; exact hK _ _ h4⟩
  case own el' l m lo n =>
    replace h : bK (elEq el' el) (vecK el l m s fun T' t => bK (tyMay T' T) (bK (Nat.beq lo 0) (bK (Nat.beq n m) (ofK .undef ys m t fun k t' => bK (roomB k el) (s.setK l (.vec T' el k t') fun s' => K (.own el l k 0 k) s'))))) = true := h
    rw [bK_iff, elEq_iff] at h
    obtain ⟨rfl, h⟩ := h
    obtain ⟨T', t, ho, h⟩ := vecK_ok h
    rw [bK_iff, bK_iff, bK_iff, nbeq, nbeq] at h
    obtain ⟨h2, rfl, rfl, h⟩ := h
    obtain ⟨t', h3, h4⟩ := ofK_app _ h
    rw [bK_iff] at h3
    obtain ⟨s', h5, h6⟩ := St.setK_ok h3.2
    refine ⟨rfl, ?_⟩
    simp only [ho, lst_length]
    refine ⟨tyMay_ok h2, trivial, trivial, trivial, trivial, roomB_ok h3.1, ?_⟩
    simp only [OB.abs] at h5
    rw [h4] at h5
    rw [← h5]; exact hK _ _ h6
theorem kEq_iff {a b : IntKind} : kEq a b = true ↔ a = b := by cases a <;> cases b <;> simp [kEq, kNum, nbeq']
theorem inB_ok {k : IntKind} {z : Int} (h : inB k z = true) : wrapK k z = z := by
  have h2 : -(kNeg k : Int) ≤ z ∧ z < kLim k := by
    cases z with
    | ofNat n => have h : Nat.ble (Nat.succ n) (kLim k) = true := h; rw [nble, decide_eq_true_eq] at h; simp; omega
    | negSucc n => have h : Nat.ble (Nat.succ n) (kNeg k) = true := h; rw [nble, decide_eq_true_eq] at h; rw [Int.negSucc_eq]; omega
  unfold wrapK
  cases k <;> simp only [kNeg, kLim] at h2
  · exact IntWalk.i8_in _ (by omega)
  · exact IntWalk.i16_in _ (by omega)
  · exact IntWalk.i32_in _ (by omega)
  · exact IntWalk.i64_in _ (by omega)
  · exact IntWalk.u8_in _ (by omega)
  · exact IntWalk.u16_in _ (by omega)
  · exact IntWalk.u32_in _ (by omega)
  · exact IntWalk.u64_in _ (by omega)
theorem wrapF_eq (k : IntKind) (z : Int) (K : AV → Bool) : wrapF k z K = K (.int k (wrapK k z)) := by
  unfold wrapF
  rw [iK_eq, fI_eq, fI_eq]
  split
  · rename_i h; rw [inB_ok h]
  · rfl
theorem addI_eq (x y : Int) : addI x y = x + y := by cases x <;> cases y <;> rfl
theorem negI_eq (x : Int) : negI x = -x := by
  cases x with
  | ofNat n => cases n <;> rfl
  | negSucc n => rfl
theorem nat2_eq (x y : Int) (f : Nat → Nat → Bool) (d : Bool) : nat2 x y f d = if 0 ≤ x ∧ 0 ≤ y then f x.toNat y.toNat else d := by
  cases x with
  | ofNat a => cases y with
    | ofNat b => rw [if_pos ⟨Int.natCast_nonneg a, Int.natCast_nonneg b⟩]; rfl
    | negSucc b => rw [if_neg (fun h => absurd h.2 (by simp))]; rfl
  | negSucc a => rw [if_neg (fun h => absurd h.1 (by simp))]; rfl
theorem natI_ok {x : Int} {K : Nat → Bool} (h : natI x K = true) : 0 ≤ x ∧ K x.toNat = true := by
  cases x with
  | ofNat n => exact ⟨Int.natCast_nonneg n, h⟩
  | negSucc n => exact no h rfl
theorem mulF_eq (k : IntKind) (x y : Int) (K : AV → Bool) : mulF k x y K = K (.int k (wrapK k (x * y))) := by
  unfold mulF
  rw [nat2_eq, wrapF_eq, wrapF_eq]
  split
  · rename_i h
    obtain ⟨a, rfl⟩ := Int.eq_ofNat_of_zero_le h.1
    obtain ⟨b, rfl⟩ := Int.eq_ofNat_of_zero_le h.2
    rfl
  · rfl
theorem quoF_ok {k : IntKind} {x y : Int} {K : AV → Bool} (h : quoF k x y K = true) : y ≠ 0 ∧ K (.int k (wrapK k (x.tdiv y))) = true := by
  unfold quoF at h
  rw [nat2_eq, wrapF_eq, wrapF_eq] at h
  split at h
  · rename_i h0
    obtain ⟨a, rfl⟩ := Int.eq_ofNat_of_zero_le h0.1
    obtain ⟨b, rfl⟩ := Int.eq_ofNat_of_zero_le h0.2
    rw [bK_iff, notK_eq, nbeq'] at h
    exact ⟨by have := h.1; simp at this; omega, h.2⟩
  · rw [bK_iff, notK_eq, eqI_eq] at h
    exact ⟨by simpa using h.1, h.2⟩
theorem remF_ok {k : IntKind} {x y : Int} {K : AV → Bool} (h : remF k x y K = true) : y ≠ 0 ∧ K (.int k (x.tmod y)) = true := by
  unfold remF at h
  rw [nat2_eq] at h
  split at h
  · rename_i h0
    obtain ⟨a, rfl⟩ := Int.eq_ofNat_of_zero_le h0.1
    obtain ⟨b, rfl⟩ := Int.eq_ofNat_of_zero_le h0.2
    rw [bK_iff, notK_eq, nbeq', fN_eq] at h
    exact ⟨by have := h.1; simp at this; omega, h.2⟩
  · rw [bK_iff, notK_eq, eqI_eq, fI_eq] at h
    exact ⟨by simpa using h.1, h.2⟩
theorem bits_nat {op : BinOp} {g : Nat → Nat → Nat} {k : IntKind} {a b : Nat} (hg : ∀ (n : Nat) (x y : BitVec n), (op = .and ∧ g x.toNat y.toNat = (x &&& y).toNat) ∨ (op = .or ∧ g x.toNat y.toNat = (x ||| y).toNat) ∨ (op = .xor ∧ g x.toNat y.toNat = (x ^^^ y).toNat)) (ha : inB k a = true) (hb : inB k b = true) : bitsK op k a b = (g a b : Nat) := by
  have lim : ∀ {n : Nat}, inB k (n : Int) = true → n < kLim k := fun {n} h => by
    have h : Nat.ble (Nat.succ n) (kLim k) = true := h
    rw [nble, decide_eq_true_eq] at h; exact h
  have hp : kLim k ≤ 2 ^ k.bits := by cases k <;> decide
  have ea : (BitVec.ofInt k.bits (a : Int)).toNat = a := by
    rw [BitVec.ofInt_natCast, BitVec.toNat_ofNat, Nat.mod_eq_of_lt (Nat.lt_of_lt_of_le (lim ha) hp)]
  have eb : (BitVec.ofInt k.bits (b : Int)).toNat = b := by
    rw [BitVec.ofInt_natCast, BitVec.toNat_ofNat, Nat.mod_eq_of_lt (Nat.lt_of_lt_of_le (lim hb) hp)]
  have hr : ∀ z : BitVec k.bits, (∀ i, z.getLsbD i = true → (BitVec.ofInt k.bits (a : Int)).getLsbD i = true ∨ (BitVec.ofInt k.bits (b : Int)).getLsbD i = true) → k.wrap z.toNat = z.toNat := fun z hz => by
    have hlt : z.toNat < kLim k := by
      have hk : ∃ m, kLim k = 2 ^ m := by cases k <;> simp only [kLim] <;> first | exact ⟨7, rfl⟩ | exact ⟨15, rfl⟩ | exact ⟨31, rfl⟩ | exact ⟨63, rfl⟩ | exact ⟨8, rfl⟩ | exact ⟨16, rfl⟩ | exact ⟨32, rfl⟩ | exact ⟨64, rfl⟩
      obtain ⟨m, hm⟩ := hk
      rw [hm]
      refine Nat.lt_pow_two_of_testBit _ fun i hi => ?_
      by_cases hzi : z.toNat.testBit i = true
      · have := hz i hzi
        have h0 : ∀ n : Nat, n < 2 ^ m → n.testBit i = false := fun n hn => Nat.testBit_lt_two_pow (Nat.lt_of_lt_of_le hn (Nat.pow_le_pow_right (by omega) hi))
        rcases this with h | h
        · have h : (BitVec.ofInt k.bits (a : Int)).toNat.testBit i = true := h
          rw [ea, h0 a (hm ▸ lim ha)] at h; cases h
        · have h : (BitVec.ofInt k.bits (b : Int)).toNat.testBit i = true := h
          rw [eb, h0 b (hm ▸ lim hb)] at h; cases h
      · simpa using hzi
    have : inB k (z.toNat : Int) = true := by
      show Nat.ble (Nat.succ z.toNat) (kLim k) = true
      rw [nble, decide_eq_true_eq]; exact hlt
    exact inB_ok this
  rcases hg k.bits (BitVec.ofInt k.bits a) (BitVec.ofInt k.bits b) with ⟨rfl, h⟩ | ⟨rfl, h⟩ | ⟨rfl, h⟩
  · rw [ea, eb] at h; rw [h]
    exact hr _ fun i hi => .inl (by rw [BitVec.getLsbD_and, Bool.and_eq_true] at hi; exact hi.1)
  · rw [ea, eb] at h; rw [h]
    exact hr _ fun i hi => (by rw [BitVec.getLsbD_or, Bool.or_eq_true] at hi; exact hi)
  · rw [ea, eb] at h; rw [h]
    exact hr _ fun i hi => (by
      rw [BitVec.getLsbD_xor] at hi
      cases h1 : (BitVec.ofInt k.bits (a : Int)).getLsbD i with
      | true => exact .inl rfl
      | false => rw [h1] at hi; exact .inr (by simpa using hi))
theorem bitF_eq {op : BinOp} {g : Nat → Nat → Nat} {k : IntKind} {x y : Int} {K : AV → Bool} (hg : ∀ (n : Nat) (x y : BitVec n), (op = .and ∧ g x.toNat y.toNat = (x &&& y).toNat) ∨ (op = .or ∧ g x.toNat y.toNat = (x ||| y).toNat) ∨ (op = .xor ∧ g x.toNat y.toNat = (x ^^^ y).toNat)) : bitF op g k x y K = K (.int k (bitsK op k x y)) := by
  unfold bitF
  rw [iK_eq, nat2_eq, fI_eq, fN_eq]
  split
  · rename_i h
    rw [bK_iff] at h
    split
    · rename_i h0
      obtain ⟨a, rfl⟩ := Int.eq_ofNat_of_zero_le h0.1
      obtain ⟨b, rfl⟩ := Int.eq_ofNat_of_zero_le h0.2
      rw [bits_nat hg h.1 h.2]; rfl
    · rfl
  · rfl
theorem minN_eq (a b : Nat) : minN a b = Nat.min a b := by
  unfold minN
  rw [nble]
  by_cases h : a ≤ b
  · simp [h, Nat.min_eq_left h]
  · simp [h, Nat.min_eq_right (Nat.le_of_lt (Nat.lt_of_not_le h))]
theorem shlF_eq (k : IntKind) (x : Int) (n : Nat) (K : AV → Bool) : shlF k x n K = K (.int k (wrapK k (x * 2 ^ (Nat.min n k.bits)))) := by
  cases x with
  | ofNat a =>
    show wrapF k (Int.ofNat (Nat.mul a (Nat.pow 2 (minN n (kBits k))))) K = _
    have hb : kBits k = k.bits := by cases k <;> rfl
    rw [wrapF_eq, minN_eq, hb]
    congr 3
  | negSucc a => exact wrapF_eq _ _ _
theorem shrF_eq (k : IntKind) (x : Int) (n : Nat) (K : AV → Bool) : shrF k x n K = K (.int k (x.fdiv (2 ^ (Nat.min n k.bits)))) := by
  cases x with
  | ofNat a =>
    show (fN (Nat.div a (Nat.pow 2 (minN n (kBits k)))) fun r => K (.int k (Int.ofNat r))) = _
    have hb : kBits k = k.bits := by cases k <;> rfl
    rw [fN_eq, minN_eq, hb]
    congr 2
    have e : (2 ^ (Nat.min n k.bits) : Int) = Int.ofNat (Nat.pow 2 (Nat.min n k.bits)) := by simp
    rw [e, Int.fdiv_eq_ediv_of_nonneg (Int.ofNat a) (b := Int.ofNat (Nat.pow 2 (Nat.min n k.bits))) (Int.natCast_nonneg _)]; rfl
  | negSucc a => exact fI_eq _ _
theorem tB_eq (b : Bool) (K : AV → Bool) : tB b K = K (.bool b) := by cases b <;> rfl
theorem eB_ok {k k' : IntKind} {b : Bool} {K : AV → Bool} (h : eB k k' b K = true) : k = k' ∧ K (.bool b) = true := by
  unfold eB at h
  rw [bK_iff, kEq_iff] at h
  exact ⟨h.1, by cases b <;> exact h.2⟩
theorem ltI_not (a b : Int) : (!ltI a b) = decide (b ≤ a) := by rw [ltI_eq]; by_cases h : a < b <;> simp [h] <;> omega
theorem lt_sym (a b : List UInt8) : (!Op.bytesLess b a) = (Op.bytesLess a b || a == b) := by
  induction a generalizing b with
  | nil => cases b <;> rfl
  | cons x a ih =>
    cases b with
    | nil => rfl
    | cons y b =>
      simp only [Op.bytesLess, List.cons_beq_cons]
      by_cases h : x = y
      · subst h; simp [ih]
      · have h1 : (x == y) = false := by simpa using h
        have h2 : (y == x) = false := by simpa using fun e => h e.symm
        have h3 : x.toNat ≠ y.toNat := fun e => h (UInt8.toNat_inj.1 e)
        simp only [h1, h2, Bool.false_and, Bool.or_false]
        rw [Bool.eq_iff_iff]; simp [UInt8.lt_iff_toNat_lt, UInt8.le_iff_toNat_le]; omega
theorem binP_ok {op : BinOp} {x y : AV} {K : AV → Bool} {K' : AV → Prop} (hh : binP x op y K = true) (hK : ∀ v, K v = true → K' v) : binA op x y K' := by
  cases x <;> first | exact no hh rfl | skip
  case int k a =>
    obtain ⟨k', b, rfl, h⟩ := onInt_ok (show (onInt y fun k' m => opI op k a k' m K) = true from hh)
    clear hh
    cases op
    case add => obtain ⟨h1, h2⟩ := bK_iff.1 (show bK (kEq k k') (wrapF k (addI a b) K) = true from h); rw [wrapF_eq, addI_eq] at h2; exact ⟨kEq_iff.1 h1, hK _ h2⟩
    case sub => obtain ⟨h1, h2⟩ := bK_iff.1 (show bK (kEq k k') (wrapF k (addI a (negI b)) K) = true from h); rw [wrapF_eq, addI_eq, negI_eq, ← Int.sub_eq_add_neg] at h2; exact ⟨kEq_iff.1 h1, hK _ h2⟩
    case mul => obtain ⟨h1, h2⟩ := bK_iff.1 (show bK (kEq k k') (mulF k a b K) = true from h); rw [mulF_eq] at h2; exact ⟨kEq_iff.1 h1, hK _ h2⟩
    case quo => obtain ⟨h1, h2⟩ := bK_iff.1 (show bK (kEq k k') (quoF k a b K) = true from h); obtain ⟨h3, h4⟩ := quoF_ok h2; exact ⟨kEq_iff.1 h1, h3, hK _ h4⟩
    case rem => obtain ⟨h1, h2⟩ := bK_iff.1 (show bK (kEq k k') (remF k a b K) = true from h); obtain ⟨h3, h4⟩ := remF_ok h2; exact ⟨kEq_iff.1 h1, h3, hK _ h4⟩
    case and => obtain ⟨h1, h2⟩ := bK_iff.1 (show bK (kEq k k') (bitF .and Nat.land k a b K) = true from h); rw [bitF_eq (g := Nat.land) (fun n x y => .inl ⟨rfl, rfl⟩)] at h2; exact ⟨kEq_iff.1 h1, hK _ h2⟩
    case or => obtain ⟨h1, h2⟩ := bK_iff.1 (show bK (kEq k k') (bitF .or Nat.lor k a b K) = true from h); rw [bitF_eq (g := Nat.lor) (fun n x y => .inr (.inl ⟨rfl, rfl⟩))] at h2; exact ⟨kEq_iff.1 h1, hK _ h2⟩
    case xor => obtain ⟨h1, h2⟩ := bK_iff.1 (show bK (kEq k k') (bitF .xor Nat.xor k a b K) = true from h); rw [bitF_eq (g := Nat.xor) (fun n x y => .inr (.inr ⟨rfl, rfl⟩))] at h2; exact ⟨kEq_iff.1 h1, hK _ h2⟩
    case shl => obtain ⟨h1, h2⟩ := natI_ok (show (natI b fun n => shlF k a n K) = true from h); rw [shlF_eq] at h2; exact ⟨h1, hK _ h2⟩
    case shr => obtain ⟨h1, h2⟩ := natI_ok (show (natI b fun n => shrF k a n K) = true from h); rw [shrF_eq] at h2; exact ⟨h1, hK _ h2⟩
    case andNot => obtain ⟨h1, h2⟩ := bK_iff.1 (show bK (kEq k k') (bitS .andNot k a b K) = true from h); exact ⟨kEq_iff.1 h1, hK _ (by rw [bitS, fI_eq] at h2; exact h2)⟩
    case eql => obtain ⟨h1, h2⟩ := eB_ok (show eB k k' (eqI a b) K = true from h); rw [eqI_eq] at h2; exact ⟨h1, hK _ h2⟩
    case neq => obtain ⟨h1, h2⟩ := eB_ok (show eB k k' (notK (eqI a b)) K = true from h); rw [notK_eq, eqI_eq] at h2; exact ⟨h1, hK _ h2⟩
    case lss => obtain ⟨h1, h2⟩ := eB_ok (show eB k k' (ltI a b) K = true from h); rw [ltI_eq] at h2; exact ⟨h1, hK _ h2⟩
    case leq => obtain ⟨h1, h2⟩ := eB_ok (show eB k k' (notK (ltI b a)) K = true from h); rw [notK_eq, ltI_not] at h2; exact ⟨h1, hK _ h2⟩
    case gtr => obtain ⟨h1, h2⟩ := eB_ok (show eB k k' (ltI b a) K = true from h); rw [ltI_eq] at h2; exact ⟨h1, hK _ h2⟩
    case geq => obtain ⟨h1, h2⟩ := eB_ok (show eB k k' (notK (ltI a b)) K = true from h); rw [notK_eq, ltI_not] at h2; exact ⟨h1, hK _ h2⟩
  case str a =>
    obtain ⟨b, rfl, h⟩ := onStr_ok (show (onStr y fun t => opS op a t K) = true from hh)
    clear hh
    cases op <;> first | exact no h rfl | skip
    case add =>
      replace h : (lenK a 0 fun n => lenK b n fun m => bK (Nat.ble m 9223372036854775807) (appendK a b fun c => K (.str c))) = true := h
      rw [len0, lenK_eq, bK_iff, nble, decide_eq_true_eq, appendK_eq] at h
      refine ⟨?_, hK _ h.2⟩
      have := h.1
      show ((a.length + b.length : Nat) : Int) ≤ 9223372036854775807
      omega
    case eql => replace h : tB (eqS a b) K = true := h; rw [tB_eq, eqS_eq] at h; exact hK _ h
    case neq => replace h : tB (notK (eqS a b)) K = true := h; rw [tB_eq, notK_eq, eqS_eq] at h; exact hK _ h
    case lss => replace h : tB (ltS a b) K = true := h; rw [tB_eq, ltS_eq] at h; exact hK _ h
    case leq => replace h : tB (notK (ltS b a)) K = true := h; rw [tB_eq, notK_eq, ltS_eq, lt_sym] at h; exact hK _ h
    case gtr => replace h : tB (ltS b a) K = true := h; rw [tB_eq, ltS_eq] at h; refine hK _ ?_; rw [← lt_sym, Bool.not_not]; exact h
    case geq => replace h : tB (notK (ltS a b)) K = true := h; rw [tB_eq, notK_eq, ltS_eq] at h; exact hK _ h
theorem unK_ok {op : UnOp} {x : AV} {K : AV → Bool} {K' : AV → Prop} (hh : unK op x K = true) (hK : ∀ v, K v = true → K' v) : unA op x K' := by
  cases op <;> first | exact no hh rfl | skip
  case neg => obtain ⟨k, n, rfl, h⟩ := onInt_ok (show (onInt x fun k n => wrapF k (negI n) K) = true from hh); rw [wrapF_eq, negI_eq] at h; refine hK _ ?_; rw [Int.zero_sub]; exact h
  case xor => obtain ⟨k, n, rfl, h⟩ := onInt_ok (show (onInt x fun k n => fI (bitsK .xor k (if k.signed then -1 else k.max) n) fun r => K (.int k r)) = true from hh); rw [fI_eq] at h; exact hK _ h
  case not => obtain ⟨b, rfl, h⟩ := onBool_ok (show (onBool x fun b => tB (notK b) K) = true from hh); rw [tB_eq, notK_eq] at h; exact hK _ h
theorem kdK_ok {k : Kd} {x y : AV} {K : Bool → Bool} (h : kdK k x y K = true) : ∃ b, kdEq k x y = some b ∧ K b = true := by
  cases k
  · obtain ⟨a, rfl, h1⟩ := onBool_ok (show (onBool x fun a => onBool y fun b => K (beqB a b)) = true from h)
    obtain ⟨b, rfl, h2⟩ := onBool_ok h1
    rw [beqB_eq] at h2
    exact ⟨_, rfl, h2⟩
  · obtain ⟨k, a, rfl, h1⟩ := onInt_ok (show (onInt x fun k a => onInt y fun k' b => bK (kEq k k') (K (eqI a b))) = true from h)
    obtain ⟨k', b, rfl, h2⟩ := onInt_ok h1
    rw [bK_iff, kEq_iff, eqI_eq] at h2
    exact ⟨a == b, by simp [kdEq, h2.1], h2.2⟩
  · obtain ⟨a, rfl, h1⟩ := onStr_ok (show (onStr x fun a => onStr y fun b => K (eqS a b)) = true from h)
    obtain ⟨b, rfl, h2⟩ := onStr_ok h1
    rw [eqS_eq] at h2
    exact ⟨_, rfl, h2⟩
theorem kdsK_ok (ks : List Kd) : ∀ (az bs : List AV) (K : Bool → Bool), kdsK ks az bs K = true → ∃ b, kdsEq ks az bs = some b ∧ K b = true := by
  induction ks with
  | nil =>
    intro az bs K h
    obtain ⟨h1, h⟩ := bK_iff.1 (show bK (isNilL az) (bK (isNilL bs) (K true)) = true from h)
    obtain ⟨h2, h⟩ := bK_iff.1 h
    rw [isNilL_iff] at h1 h2
    subst h1; subst h2
    exact ⟨true, rfl, h⟩
  | cons k ks ih =>
    intro az bs K h
    cases az with
    | nil => exact no h rfl
    | cons a az => cases bs with
      | nil => exact no h rfl
      | cons b bs =>
        obtain ⟨x, h1, h⟩ := kdK_ok (show (kdK k a b fun x => kdsK ks az bs fun y => K (bK x y)) = true from h)
        obtain ⟨y, h2, h⟩ := ih _ _ _ h
        refine ⟨x && y, by simp [kdsEq, h1, h2], ?_⟩
        have : bK x y = (x && y) := by cases x <;> rfl
        rw [← this]; exact h
def eqfE (ag : Bool) (ks : List Kd) (a b : AV) : Option Bool := if ag then (match a, b with | .agg az, .agg bs => kdsEq ks az bs | _, _ => none) else kdsEq ks [a] [b]
theorem eqfK_ok {ag : Bool} {ks : List Kd} {x y : AV} {K : Bool → Bool} (h : eqfK ag ks x y K = true) : ∃ b, eqfE ag ks x y = some b ∧ K b = true := by
  unfold eqfK at h
  rw [iK_eq] at h
  cases ag with
  | true =>
    rw [if_pos rfl] at h
    obtain ⟨az, rfl, h1⟩ := onAgg_ok h
    obtain ⟨bs, rfl, h2⟩ := onAgg_ok h1
    exact kdsK_ok _ _ _ _ h2
  | false => rw [if_neg (by simp)] at h; exact kdsK_ok _ _ _ _ h
theorem negB_eq (n b : Bool) : negB n b = (if n then !b else b) := by cases n <;> cases b <;> rfl
theorem buildK_ok {t : Tr AV} {K : List AV → Bool} {K' : List AV → Prop} (hK : ∀ l, K l = true → K' l) : ∀ (ps : List (Nat × Nat × AX)) (z : List AV), buildK ps z t K = true → buildA z (t.get .undef) ps K'
  | [], z, h => hK _ h
  | (off, n, x) :: r, z, h => by
    replace h : (evK x t fun v => cellsK v fun cs => bK (lenK cs 0 (Nat.beq n)) (bK (allB scalB cs) (bK (lenK z 0 (Nat.ble (Nat.add off n))) (setManyK cs off z fun z' => buildK r z' t K)))) = true := h
    rw [evK_eq, cellsK_eq, bK_iff, bK_iff, bK_iff, len0, len0, nbeq, nble, decide_eq_true_eq, allScal, setManyK_eq] at h
    obtain ⟨h1, h2, h3, h4⟩ := h
    exact ⟨h1.symm, h2, h3, buildK_ok hK r _ h4⟩
theorem bsliceK_ok {el : El} {t : Tr AV} {K : List AV → Bool} {K' : List AV → Prop} (hK : ∀ l, K l = true → K' l) : ∀ (ps : List (Nat × AX)) (z : List AV), bsliceK el ps z t K = true → bsliceA el z (t.get .undef) ps K'
  | [], z, h => hK _ h
  | (i, x) :: r, z, h => by
    replace h : (evK x t fun v => bK (fitsB v el) (bK (lenK z 0 (Nat.ble (Nat.succ i))) (setLK z i v fun z' => bsliceK el r z' t K))) = true := h
    rw [evK_eq, bK_iff, bK_iff, fitsB_eq, len0, nble, decide_eq_true_eq, setLK_eq] at h
    obtain ⟨h1, h2, h3⟩ := h
    exact ⟨h1, h2, bsliceK_ok hK r _ h3⟩
theorem repK_eq (v : AV) : ∀ (n : Nat) (K : List AV → Bool), repK v n K = K (List.replicate n v) := by
  intro n
  induction n with
  | zero => intro K; rfl
  | succ n ih => intro K; exact ih _
theorem bytesK_ok : ∀ (l : List AV) (K : List UInt8 → Bool), bytesK l K = true → ∃ s : List UInt8, l = s.map (fun b => AV.int .u8 b.toNat) ∧ K s = true
  | [], K, h => ⟨[], rfl, h⟩
  | a :: l, K, h => by
    obtain ⟨k, z, rfl, ha⟩ := onInt_ok (show (onInt a fun k z => (bK (kEq k .u8) (natI z fun n => bK (Nat.ble n 255) (bytesK l fun m => K (UInt8.ofNat n :: m))))) = true from h)
    obtain ⟨h1, hb⟩ := bK_iff.1 ha
    obtain ⟨h2, hc⟩ := natI_ok hb
    obtain ⟨h3, hd⟩ := bK_iff.1 hc
    rw [nble, decide_eq_true_eq] at h3
    rw [kEq_iff] at h1
    subst h1
    obtain ⟨s, rfl, he⟩ := bytesK_ok l _ hd
    refine ⟨UInt8.ofNat z.toNat :: s, ?_, he⟩
    rw [List.map_cons]
    congr 2
    simp; omega
theorem boundK_ok {x : Option AV} {d y : Nat} {K : Nat → Bool} {K' : Nat → Prop} (h : boundK x d y K = true) (hK : ∀ n, K n = true → K' n) : bound x d y K' := by
  cases x with
  | none => exact hK _ h
  | some v =>
    obtain ⟨k, z, rfl, ha⟩ := onInt_ok (show (onInt v fun _ z => natI z fun n => bK (Nat.ble n y) (K n)) = true from h)
    obtain ⟨h2, hb⟩ := natI_ok ha
    rw [bK_iff, nble, decide_eq_true_eq] at hb
    exact ⟨h2, by omega, hK _ hb.2⟩
theorem evOK_eq (x : Option AX) (t : Tr AV) (K : Option AV → Bool) : evOK x t K = K (x.map (AX.ev (t.get .undef))) := by
  cases x with
  | none => rfl
  | some x => show (evK x t fun v => K (some v)) = _; rw [evK_eq]; rfl
theorem isNilP_ok {x : AV} {k : NK} {K : Bool → Bool} (h : isNilP x k K = true) : ∃ b, isNilK k x = some b ∧ K b = true := by
  cases x <;> first
    | exact no h rfl
    | (obtain ⟨h1, h2⟩ := bK_iff.1 h
       cases k <;> first | exact no h1 rfl | exact ⟨_, rfl, h2⟩)
theorem nilEqK_ok {k : NK} {x y : AV} {K : Bool → Bool} (h : nilEqK k x y K = true) : ∃ b, nilEq k x y = some b ∧ K b = true := by
  obtain ⟨a, h1, h⟩ := isNilP_ok (show (isNilP x k fun a => isNilP y k fun b => iK a (K b) (bK b (K false))) = true from h)
  obtain ⟨b, h2, h⟩ := isNilP_ok h
  rw [iK_eq] at h
  cases a with
  | true => rw [if_pos rfl] at h; exact ⟨b, by simp [nilEq, h1, h2], h⟩
  | false =>
    rw [if_neg (by simp), bK_iff] at h
    obtain ⟨rfl, h⟩ := h
    exact ⟨false, by simp [nilEq, h1, h2], h⟩
mutual
theorem purB_eq : ∀ (x : AV), purB x = x.pur
  | .undef | .bool _ | .int .. | .str _ | .nils | .nilp | .nilf | .nili | .nilm | .own .. | .ref .. | .vref .. | .mp _ | .yld _ | .asl .. | .opq => rfl
  | .agg cs => purA_eq cs
  | .tup cs => purA_eq cs
  | .lst _ _ xs => purA_eq xs
  | .eref _ x _ => purB_eq x
  | .ifc _ v => purB_eq v
  | .fn f a b => by
    show bK (purB (.agg a)) (purB (.agg b)) = (AV.purL a && AV.purL b)
    rw [purA_eq a, purA_eq b]; cases AV.purL a <;> rfl
theorem purA_eq : ∀ (x : List AV), purB (.agg x) = AV.purL x
  | [] => rfl
  | a :: l => by
    show bK (purB a) (purB (.agg l)) = (a.pur && AV.purL l)
    rw [purB_eq a, purA_eq l]; cases a.pur <;> rfl
end
mutual
theorem flatB_eq : ∀ (x : AV), flatB x = x.flat
  | .undef | .bool _ | .int .. | .str _ | .nils | .nilp | .nilf | .nili | .nilm | .own .. | .ref .. | .vref .. | .mp _ | .yld _ | .asl .. | .opq => rfl
  | .agg cs => flatA_eq cs
  | .tup cs => flatA_eq cs
  | .lst _ _ [] => rfl
  | .lst _ _ (_ :: _) => rfl
  | .eref _ x _ => rfl
  | .ifc _ v => flatB_eq v
  | .fn f a b => rfl
theorem flatA_eq : ∀ (x : List AV), flatB (.agg x) = AV.flatL x
  | [] => rfl
  | a :: l => by
    show bK (flatB a) (flatB (.agg l)) = (a.flat && AV.flatL l)
    rw [flatB_eq a, flatA_eq l]; cases a.flat <;> rfl
end
theorem purL_eq (l : List AV) : allB purB l = AV.purL l := by
  rw [allB_eq]
  induction l with
  | nil => rfl
  | cons a l ih => rw [List.all_cons, ih, purB_eq]; rfl
theorem isNoT_iff {T : Option TypeId} : isNoT T = true ↔ T = none := by
  cases T with
  | none => exact ⟨fun _ => rfl, fun _ => rfl⟩
  | some t => exact ⟨fun h => absurd (show false = true from h) Bool.false_ne_true, fun h => by cases h⟩
theorem lst_sub (d : AV) {lo n m : Nat} (t : Tr AV) (h : lo + n ≤ m) (i : Nat) (hi : i < n) : (lst d 0 m t).getD (lo + i) d = (lst d lo n t).getD i d := by
  have e : lst d lo n t = ((lst d 0 m t).drop lo).take n := by
    have := lst_cut (d := d) (lo := lo) (k := n) (n := m) (t := t) h
    exact this.symm
  rw [e]
  simp [List.getD_eq_getElem?_getD, List.getElem?_take, List.getElem?_drop, hi]
theorem frzK_ok (s : St) : ∀ (k : Nat) (a : AV) (K : AV → Bool), frzK s k a K = true → ∃ b, View s.abs a b ∧ K b = true := by
  intro k
  induction k with
  | zero => intro a K h; exact no h rfl
  | succ k ih =>
    have lst : ∀ (l : List AV) (K : List AV → Bool), mapK (frzK s k) l K = true → ∃ m, ViewL s.abs l m ∧ K m = true := fun l K h => by
      obtain ⟨m, h1, h2, h3⟩ := mapK_ok (R := View s.abs) ih l K h
      refine ⟨m, ⟨h1, fun i hi => ?_⟩, h3⟩
      have hi' : i < m.length := by omega
      have := h2 (l[i], m[i]) (by rw [List.mem_iff_getElem]; exact ⟨i, by simp; omega, by simp⟩)
      simpa [List.getD_eq_getElem?_getD, hi, hi'] using this
    intro a K hh
    have hp : ∀ {v : AV} {x : Bool}, bK (purB v) x = true → v.pur = true ∧ x = true := fun h => by rw [bK_iff, purB_eq] at h; exact h
    cases a
    case agg cs => obtain ⟨m, h1, h2⟩ := lst _ _ (show mapK (frzK s k) cs (fun ds => K (.agg ds)) = true from hh); exact ⟨_, View.agg' h1, h2⟩
    case tup cs => obtain ⟨m, h1, h2⟩ := lst _ _ (show mapK (frzK s k) cs (fun ds => K (.tup ds)) = true from hh); exact ⟨_, View.tup' h1, h2⟩
    case eref el x off => obtain ⟨h1, h2⟩ := hp (show bK (purB (.eref el x off)) (K (.eref el x off)) = true from hh); exact ⟨_, .refl _ h1, h2⟩
    case fn f a b => obtain ⟨h1, h2⟩ := hp (show bK (purB (.fn f a b)) (K (.fn f a b)) = true from hh); exact ⟨_, .refl _ h1, h2⟩
    case ifc T v => obtain ⟨h1, h2⟩ := hp (show bK (purB (.ifc T v)) (K (.ifc T v)) = true from hh); exact ⟨_, .refl _ h1, h2⟩
    case lst f el xs =>
      replace hh : iK (allB purB xs) (K (.lst f el xs)) (mapK (frzK s k) xs fun ys => K (.lst false el ys)) = true := hh
      rw [iK_eq] at hh
      split at hh
      · rename_i h; rw [purL_eq] at h; exact ⟨_, .refl _ h, hh⟩
      · obtain ⟨m, h1, h2⟩ := lst _ _ hh; exact ⟨_, View.lstL h1, h2⟩
    case own el l m lo n =>
      obtain ⟨T, t, ho, h⟩ := vecK_ok (show (vecK el l m s fun _ t => bK (Nat.ble (Nat.add lo n) m) (lstK .undef n lo t fun xs => mapK (frzK s k) xs fun ys => K (.lst false el ys))) = true from hh)
      rw [bK_iff, nble, decide_eq_true_eq, lstK_eq] at h
      obtain ⟨hle, h⟩ := h
      have hle : lo + n ≤ m := hle
      obtain ⟨ys, h1, h2⟩ := lst _ _ h
      have h3 := View.own T el l lo n _ ys ho (by rw [← h1.1, lst_length]) (by rw [lst_length]; exact hle) (fun i hi => by
        rw [lst_sub _ _ hle i hi]; exact h1.2 i (by rw [lst_length]; exact hi))
      rw [lst_length] at h3
      exact ⟨_, h3, h2⟩
    case ref l off =>
      obtain ⟨h1, h2⟩ := bK_iff.1 (show bK (Nat.beq off 0) (s.getK l fun o => onCells o fun T n t => bK (isNoT T) (lstK .undef n 0 t fun cs => mapK (frzK s k) cs fun ds => K (.eref ⟨true, n⟩ (.agg ds) 0))) = true from hh)
      rw [nbeq] at h1
      subst h1
      obtain ⟨o, ho, h3⟩ := St.getK_ok h2
      obtain ⟨T, n, t, rfl, h4⟩ := onCells_ok h3
      rw [bK_iff, isNoT_iff, lstK_eq] at h4
      obtain ⟨rfl, h4⟩ := h4
      obtain ⟨ds, h5, h6⟩ := lst _ _ h4
      exact ⟨_, View.cellsV l n _ ds ho (lst_length _ _ _ _) h5.1 h5.2, h6⟩
    case mp l =>
      obtain ⟨o, ho, h3⟩ := St.getK_ok (show (s.getK l fun o => onMap o fun _ => K .opq) = true from hh)
      obtain ⟨es, rfl, h4⟩ := onMap_ok h3
      exact ⟨_, View.opq _ l _ ho rfl rfl, h4⟩
    all_goals first
      | exact no hh rfl
      | exact ⟨_, .refl _ rfl, hh⟩
theorem fnwK_ok (s : St) : ∀ (k : Nat) (a : AV) (K : AV → Bool), fnwK s k a K = true → ∃ b, FView s.abs a b ∧ K b = true := by
  intro k
  induction k with
  | zero => intro a K h; exact no h rfl
  | succ k ih =>
    have lst : ∀ (l : List AV) (K : List AV → Bool), mapK (fnwK s k) l K = true → ∃ m : List AV, l.length = m.length ∧ (∀ i, i < l.length → FView s.abs (l.getD i .undef) (m.getD i .undef)) ∧ K m = true := fun l K h => by
      obtain ⟨m, h1, h2, h3⟩ := mapK_ok (R := FView s.abs) ih l K h
      refine ⟨m, h1, fun i hi => ?_, h3⟩
      have hi' : i < m.length := by omega
      have := h2 (l[i], m[i]) (by rw [List.mem_iff_getElem]; exact ⟨i, by simp; omega, by simp⟩)
      simpa [List.getD_eq_getElem?_getD, hi, hi'] using this
    have flt : ∀ (l : List AV), allB flatB l = true → AV.flatL l = true := fun l => by
      induction l with
      | nil => exact fun _ => rfl
      | cons a l ih2 =>
        intro h
        obtain ⟨h1, h2⟩ := bK_iff.1 (show bK (flatB a) (allB flatB l) = true from h)
        rw [flatB_eq] at h1
        simp only [AV.flatL, h1, ih2 h2, Bool.and_self]
    intro a K hh
    cases a
    case agg cs =>
      replace hh : iK (allB flatB cs) (K (.agg cs)) (mapK (fnwK s k) cs fun ds => K (.agg ds)) = true := hh
      rw [iK_eq] at hh
      split at hh
      · rename_i h; exact ⟨_, .flat _ (flt _ h), hh⟩
      · obtain ⟨m, h1, h2, h3⟩ := lst _ _ hh; exact ⟨_, .agg _ _ h1 h2, h3⟩
    case tup cs =>
      replace hh : iK (allB flatB cs) (K (.tup cs)) (mapK (fnwK s k) cs fun ds => K (.tup ds)) = true := hh
      rw [iK_eq] at hh
      split at hh
      · rename_i h; exact ⟨_, .flat _ (flt _ h), hh⟩
      · obtain ⟨m, h1, h2, h3⟩ := lst _ _ hh; exact ⟨_, .tup _ _ h1 h2, h3⟩
    case lst f el xs =>
      obtain ⟨h1, h2⟩ := bK_iff.1 (show bK (isNilL xs) (K (.lst f el [])) = true from hh)
      rw [isNilL_iff] at h1
      subst h1
      exact ⟨_, .flat _ rfl, h2⟩
    case own el l m lo n =>
      obtain ⟨T, t, ho, h⟩ := vecK_ok (show (vecK el l m s fun _ t => bK (Nat.ble (Nat.add lo n) m) (lstK .undef n lo t fun xs => mapK (fnwK s k) xs fun ys => K (.lst false el ys))) = true from hh)
      rw [bK_iff, nble, decide_eq_true_eq, lstK_eq] at h
      obtain ⟨hle, h⟩ := h
      have hle : lo + n ≤ m := hle
      obtain ⟨ys, h0, h1, h2⟩ := lst _ _ h
      have h3 := FView.own T el l lo n _ ys ho (by rw [← h0, lst_length]) (by rw [lst_length]; exact hle) (fun i hi => by
        rw [lst_sub _ _ hle i hi]; exact h1 i (by rw [lst_length]; exact hi))
      rw [lst_length] at h3
      exact ⟨_, h3, h2⟩
    all_goals first
      | exact no hh rfl
      | exact ⟨_, .flat _ rfl, hh⟩
end Go.AM.B
