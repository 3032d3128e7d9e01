/- Part of a proof: see Root. -/
import Derived.Test.YtnfendddolhcoaaGreatDoorW19
set_option linter.unnecessarySimpa false
set_option linter.unusedSectionVars false
set_option linter.unusedSimpArgs false
set_option linter.unusedVariables false
namespace Go.AM.B
theorem bK_iff {b x : Bool} : bK b x = true ↔ b = true ∧ x = true := by cases b <;> simp [bK]
theorem fN_eq (n : Nat) (K : Nat → Bool) : fN n K = K n := by cases n <;> rfl
theorem fI_eq (z : Int) (K : Int → Bool) : fI z K = K z := by cases z <;> exact fN_eq _ _
theorem notK_eq (b : Bool) : notK b = !b := by cases b <;> rfl
theorem beqB_eq (a b : Bool) : beqB a b = (a == b) := by cases a <;> cases b <;> rfl
theorem iK_eq (b x y : Bool) : iK b x y = if b then x else y := by cases b <;> rfl
theorem nbeq {a b : Nat} : Nat.beq a b = true ↔ a = b := ⟨Nat.eq_of_beq_eq_true, fun h => by subst h; exact Nat.beq_refl _⟩
theorem nbeq' (a b : Nat) : Nat.beq a b = decide (a = b) := by
  by_cases h : a = b
  · subst h; simp [Nat.beq_refl]
  · have : Nat.beq a b ≠ true := fun e => h (nbeq.1 e)
    simp [h]; exact Bool.not_eq_true _ ▸ this
theorem nble (a b : Nat) : Nat.ble a b = decide (a ≤ b) := by
  by_cases h : a ≤ b
  · simp [h, Nat.ble_eq_true_of_le h]
  · have : Nat.ble a b ≠ true := fun e => h (Nat.le_of_ble_eq_true e)
    simp [h]; exact Bool.not_eq_true _ ▸ this
theorem eqI_eq (x y : Int) : eqI x y = (x == y) := by
  cases x <;> cases y <;> simp only [eqI, nbeq'] <;> rw [Bool.eq_iff_iff] <;> simp <;> omega
theorem ltI_eq (x y : Int) : ltI x y = decide (x < y) := by
  cases x <;> cases y <;> simp only [ltI, nble] <;> rw [Bool.eq_iff_iff] <;> simp <;> omega
section
variable {α : Type}
def Tr.val (d : α) : Tr α → α
  | .nil => d
  | .node v _ _ => v
def Tr.get (d : α) : Tr α → Nat → α
  | .nil, _ => d
  | .node v _ _, 0 => v
  | .node _ l r, m + 1 => if m % 2 = 0 then l.get d (m / 2) else r.get d (m / 2)
theorem Tr.getK_eq (d : α) (t : Tr α) : ∀ (n : Nat) (K : α → Bool), t.getK d n K = K (t.get d n) := by
  induction t with
  | nil => intro n K; rfl
  | node v l r il ir =>
    intro n K
    cases n with
    | zero => rfl
    | succ m =>
      show iK (Nat.beq (Nat.mod m 2) 0) (l.getK d (m / 2) K) (r.getK d (m / 2) K) = K (if m % 2 = 0 then l.get d (m / 2) else r.get d (m / 2))
      rw [il, ir, iK_eq, nbeq', show Nat.mod m 2 = m % 2 from rfl]
      by_cases h : m % 2 = 0 <;> simp [h]
theorem Tr.setK_ok (d : α) : ∀ (f : Nat) (t : Tr α) (n : Nat) (v : α) (K : Tr α → Bool), Tr.setK d f t n v K = true → ∃ t', K t' = true ∧ ∀ m, t'.get d m = if m = n then v else t.get d m := by
  intro f
  induction f with
  | zero => intro t n v K h; cases h
  | succ f ih =>
    intro t n v K h
    have key : ∀ (u : α) (l r : Tr α), (∀ m, t.get d m = (Tr.node u l r).get d m) → Tr.setN u l r (Tr.setK d f) n v K = true → ∃ t', K t' = true ∧ ∀ m, t'.get d m = if m = n then v else t.get d m := by
      intro u l r ht h
      cases n with
      | zero => exact ⟨.node v l r, h, fun m => by cases m with | zero => rfl | succ m => rw [ht]; rfl⟩
      | succ n =>
        have h : iK (Nat.beq (Nat.mod n 2) 0) (Tr.setK d f l (n / 2) v fun l' => K (.node u l' r)) (Tr.setK d f r (n / 2) v fun r' => K (.node u l r')) = true := h
        rw [iK_eq, nbeq', show Nat.mod n 2 = n % 2 from rfl] at h
        by_cases h2 : n % 2 = 0
        · simp only [h2, decide_true, if_true] at h
          obtain ⟨l', h3, h4⟩ := ih _ _ _ _ h
          refine ⟨.node u l' r, h3, fun m => ?_⟩
          rw [ht]
          cases m with
          | zero => rfl
          | succ m =>
            show (if m % 2 = 0 then l'.get d (m / 2) else r.get d (m / 2)) = if m + 1 = n + 1 then v else (if m % 2 = 0 then l.get d (m / 2) else r.get d (m / 2))
            by_cases h5 : m % 2 = 0
            · rw [if_pos h5, h4, if_pos h5]
              by_cases h6 : m / 2 = n / 2
              · rw [if_pos h6, if_pos (by omega)]
              · rw [if_neg h6, if_neg (by omega)]
            · rw [if_neg h5, if_neg h5, if_neg (by omega)]
        · simp only [h2, decide_false, Bool.false_eq_true, if_false] at h
          obtain ⟨r', h3, h4⟩ := ih _ _ _ _ h
          refine ⟨.node u l r', h3, fun m => ?_⟩
          rw [ht]
          cases m with
          | zero => rfl
          | succ m =>
            show (if m % 2 = 0 then l.get d (m / 2) else r'.get d (m / 2)) = if m + 1 = n + 1 then v else (if m % 2 = 0 then l.get d (m / 2) else r.get d (m / 2))
            by_cases h5 : m % 2 = 0
            · rw [if_pos h5, if_pos h5, if_neg (by omega)]
            · rw [if_neg h5, h4, if_neg h5]
              by_cases h6 : m / 2 = n / 2
              · rw [if_pos h6, if_pos (by omega)]
              · rw [if_neg h6, if_neg (by omega)]
    cases t with
    | nil => exact key d .nil .nil (fun m => by cases m with | zero => rfl | succ m => simp only [Tr.get]; split <;> rfl) h
    | node u l r => exact key u l r (fun _ => rfl) h
theorem nthK_eq (d : α) (l : List α) : ∀ (n : Nat) (K : α → Bool), nthK d l n K = K (l.getD n d) := by
  induction l with
  | nil => intro n K; rfl
  | cons a l ih => intro n K; cases n with
    | zero => rfl
    | succ n => exact ih n K
theorem dropK_eq (l : List α) : ∀ (n : Nat) (K : List α → Bool), dropK l n K = K (l.drop n) := by
  induction l with
  | nil => intro n K; cases n <;> rfl
  | cons a l ih => intro n K; cases n with
    | zero => rfl
    | succ n => exact ih n K
theorem takeK_eq (l : List α) : ∀ (n : Nat) (K : List α → Bool), takeK l n K = K (l.take n) := by
  induction l with
  | nil => intro n K; cases n <;> rfl
  | cons a l ih => intro n K; cases n with
    | zero => rfl
    | succ n => exact ih n _
theorem cutK_eq (l : List α) (lo n : Nat) (K : List α → Bool) : cutK l lo n K = K ((l.drop lo).take n) := by rw [cutK, dropK_eq, takeK_eq]
theorem lenK_eq (l : List α) : ∀ (n : Nat) (K : Nat → Bool), lenK l n K = K (n + l.length) := by
  induction l with
  | nil => intro n K; rfl
  | cons a l ih =>
    intro n K
    show (fN (Nat.succ n) fun m => lenK l m K) = _
    rw [fN_eq, ih, List.length_cons]; congr 1; omega
theorem len0 (l : List α) (K : Nat → Bool) : lenK l 0 K = K l.length := by rw [lenK_eq, Nat.zero_add]
theorem appendK_eq (l m : List α) : ∀ (K : List α → Bool), appendK l m K = K (l ++ m) := by
  induction l with
  | nil => intro K; rfl
  | cons a l ih => intro K; exact ih _
theorem setLK_eq (l : List α) : ∀ (n : Nat) (v : α) (K : List α → Bool), setLK l n v K = K (l.set n v) := by
  induction l with
  | nil => intro n v K; rfl
  | cons a l ih => intro n v K; cases n with
    | zero => rfl
    | succ n => exact ih n v _
theorem allB_eq (f : α → Bool) (l : List α) : allB f l = l.all f := by
  induction l with
  | nil => rfl
  | cons a l ih =>
    show bK (f a) (allB f l) = _
    rw [ih]; cases h : f a <;> simp [h, bK]
theorem mapK_ok {β : Type} {f : α → (β → Bool) → Bool} {R : α → β → Prop} (hf : ∀ a K, f a K = true → ∃ b, R a b ∧ K b = true) (l : List α) : ∀ (K : List β → Bool), mapK f l K = true → ∃ m : List β, l.length = m.length ∧ (∀ p ∈ l.zip m, R p.1 p.2) ∧ K m = true := by
  induction l with
  | nil => intro K h; exact ⟨[], rfl, fun p hp => (by cases hp), h⟩
  | cons a l ih =>
    intro K h
    have h : (f a fun b => mapK f l fun m => K (b :: m)) = true := h
    obtain ⟨b, h1, h2⟩ := hf _ _ h
    obtain ⟨m, h3, h4, h5⟩ := ih _ h2
    refine ⟨b :: m, by simp [h3], fun p hp => ?_, h5⟩
    rw [List.zip_cons_cons, List.mem_cons] at hp
    rcases hp with rfl | hp
    · exact h1
    · exact h4 p hp
theorem mapK_eq {β : Type} {f : α → (β → Bool) → Bool} {g : α → β} (hf : ∀ a K, f a K = K (g a)) (l : List α) : ∀ (K : List β → Bool), mapK f l K = K (l.map g) := by
  induction l with
  | nil => intro K; rfl
  | cons a l ih => intro K; show (f a fun b => mapK f l fun m => K (b :: m)) = _; rw [hf, ih]; rfl
def lst (d : α) (off n : Nat) (t : Tr α) : List α := (List.range' off n).map (t.get d)
theorem lstK_eq (d : α) : ∀ (n off : Nat) (t : Tr α) (K : List α → Bool), lstK d n off t K = K (lst d off n t) := by
  intro n
  induction n with
  | zero => intro off t K; rfl
  | succ n ih =>
    intro off t K
    show (Tr.getK d t off fun v => fN (Nat.succ off) fun o => lstK d n o t fun l => K (v :: l)) = _
    rw [Tr.getK_eq, fN_eq, ih]
    simp [lst, List.range'_succ]
theorem ofK_ok (d : α) (l : List α) : ∀ (n : Nat) (t : Tr α) (K : Nat → Tr α → Bool), ofK d l n t K = true → ∃ t', K (n + l.length) t' = true ∧ ∀ m, t'.get d m = if n ≤ m ∧ m < n + l.length then l.getD (m - n) d else t.get d m := by
  induction l with
  | nil => intro n t K h; exact ⟨t, h, fun m => by rw [if_neg (by simp <;> omega)]⟩
  | cons a l ih =>
    intro n t K h
    have h : (Tr.setK d 60 t n a fun t' => fN (Nat.succ n) fun m => ofK d l m t' K) = true := h
    obtain ⟨t1, h1, h2⟩ := Tr.setK_ok _ _ _ _ _ _ h
    rw [fN_eq] at h1
    obtain ⟨t2, h3, h4⟩ := ih _ _ _ h1
    refine ⟨t2, by rw [List.length_cons, show n + (l.length + 1) = n.succ + l.length by omega]; exact h3, fun m => ?_⟩
    rw [h4, h2, List.length_cons]
    by_cases e : m = n
    · subst e; rw [if_neg (by omega), if_pos rfl, if_pos (by omega), Nat.sub_self]; rfl
    · rw [if_neg e]
      by_cases e2 : n.succ ≤ m ∧ m < n.succ + l.length
      · rw [if_pos e2, if_pos (by omega), show m - n = (m - n.succ) + 1 by omega]; rfl
      · rw [if_neg e2, if_neg (by omega)]
theorem lst_length (d : α) (off n : Nat) (t : Tr α) : (lst d off n t).length = n := by simp [lst]
theorem lst_get (d : α) {off n : Nat} {t : Tr α} {i : Nat} (h : i < n) (e : α) : (lst d off n t).getD i e = t.get d (off + i) := by
  rw [List.getD_eq_getElem?_getD, List.getElem?_eq_getElem (by rw [lst_length]; exact h)]; simp [lst]
theorem lst_cut (d : α) {lo k n : Nat} {t : Tr α} (h : lo + k ≤ n) : ((lst d 0 n t).drop lo).take k = lst d lo k t := by
  apply List.ext_getElem
  · simp [lst]; omega
  · intro i h1 h2; simp [lst]
theorem lst_ext (d : α) {n : Nat} {t : Tr α} {l : List α} (hl : l.length = n) (h : ∀ i, i < n → t.get d i = l.getD i d) : lst d 0 n t = l := by
  apply List.ext_getElem
  · simp [lst, hl]
  · intro i h1 h2
    have := h i (by rw [lst_length] at h1; exact h1)
    rw [List.getD_eq_getElem?_getD, List.getElem?_eq_getElem h2] at this
    simpa [lst] using this
theorem ofK_nil (d : α) {l : List α} {K : Nat → Tr α → Bool} (h : ofK d l 0 .nil K = true) : ∃ t, K l.length t = true ∧ lst d 0 l.length t = l := by
  obtain ⟨t, h1, h2⟩ := ofK_ok d l 0 .nil K h
  rw [Nat.zero_add] at h1
  exact ⟨t, h1, lst_ext d rfl fun i hi => by rw [h2, if_pos (by omega), Nat.sub_zero]⟩
theorem ofK_app (d : α) {l : List α} {n : Nat} {t : Tr α} {K : Nat → Tr α → Bool} (h : ofK d l n t K = true) : ∃ t', K (n + l.length) t' = true ∧ lst d 0 (n + l.length) t' = lst d 0 n t ++ l := by
  obtain ⟨t', h1, h2⟩ := ofK_ok d l n t K h
  refine ⟨t', h1, lst_ext d (by simp [lst]) fun i hi => ?_⟩
  rw [h2]
  by_cases e : n ≤ i
  · rw [if_pos ⟨e, hi⟩, List.getD_eq_getElem?_getD, List.getD_eq_getElem?_getD, List.getElem?_append_right (by simpa [lst] using e)]; simp [lst]
  · rw [if_neg (by omega), List.getD_eq_getElem?_getD, List.getElem?_append_left (by simp [lst]; omega), ← List.getD_eq_getElem?_getD, lst_get d (by omega), Nat.zero_add]
end
theorem setMany_length (v : List AV) : ∀ (cs : List AV) (off : Nat), (setMany cs off v).length = cs.length := by
  induction v with
  | nil => intro cs off; rfl
  | cons a v ih => intro cs off; rw [setMany, ih, List.length_set]
theorem setMany_getD (v : List AV) : ∀ (cs : List AV) (off i : Nat), off + v.length ≤ cs.length → (setMany cs off v).getD i .undef = if off ≤ i ∧ i < off + v.length then v.getD (i - off) .undef else cs.getD i .undef := by
  induction v with
  | nil => intro cs off i h; rw [if_neg (by simp <;> omega)]; rfl
  | cons a v ih =>
    intro cs off i h
    rw [List.length_cons] at h ⊢
    rw [setMany, ih _ _ _ (by rw [List.length_set]; omega)]
    by_cases e : i = off
    · subst e
      rw [if_neg (by omega), if_pos (by omega), Nat.sub_self, List.getD_eq_getElem?_getD, List.getElem?_set_self (by omega)]; rfl
    · have hs : (cs.set off a).getD i .undef = cs.getD i .undef := by rw [List.getD_eq_getElem?_getD, List.getElem?_set_ne (fun h => e h.symm), ← List.getD_eq_getElem?_getD]
      by_cases e2 : off + 1 ≤ i ∧ i < off + 1 + v.length
      · rw [if_pos e2, if_pos (by omega), show i - off = (i - (off + 1)) + 1 by omega]; rfl
      · rw [if_neg e2, if_neg (by omega), hs]
theorem ofK_set {vs : List AV} {off n : Nat} {t : Tr AV} {K : Nat → Tr AV → Bool} (hn : off + vs.length ≤ n) (h : ofK .undef vs off t K = true) : ∃ k t', K k t' = true ∧ lst .undef 0 n t' = setMany (lst .undef 0 n t) off vs := by
  obtain ⟨t', h1, h2⟩ := ofK_ok _ _ _ _ _ h
  refine ⟨_, t', h1, lst_ext _ (by rw [setMany_length, lst_length]) fun i hi => ?_⟩
  rw [h2, setMany_getD _ _ _ _ (by rw [lst_length]; exact hn), lst_get _ hi, Nat.zero_add]
theorem setManyK_eq (zs : List AV) : ∀ (off : Nat) (cs : List AV) (K : List AV → Bool), setManyK zs off cs K = K (setMany cs off zs) := by
  induction zs with
  | nil => intro off cs K; rfl
  | cons a zs ih =>
    intro off cs K
    show (setLK cs off a fun cs' => setManyK zs (Nat.succ off) cs' K) = _
    rw [setLK_eq, ih]; rfl
theorem setK_lst {n i : Nat} {t : Tr AV} {v : AV} {K : Tr AV → Bool} (hi : i < n) (h : Tr.setK .undef 60 t i v K = true) : ∃ t', K t' = true ∧ lst .undef 0 n t' = (lst .undef 0 n t).set i v := by
  obtain ⟨t', h1, h2⟩ := Tr.setK_ok _ _ _ _ _ _ h
  refine ⟨t', h1, lst_ext _ (by rw [List.length_set, lst_length]) fun j hj => ?_⟩
  rw [h2]
  by_cases e : j = i
  · subst e; rw [if_pos rfl, List.getD_eq_getElem?_getD, List.getElem?_set_self (by rw [lst_length]; exact hj)]; rfl
  · rw [if_neg e, List.getD_eq_getElem?_getD, List.getElem?_set_ne (fun h => e h.symm), ← List.getD_eq_getElem?_getD, lst_get _ hj, Nat.zero_add]
theorem eqS_eq (a : List UInt8) : ∀ b, eqS a b = (a == b) := by
  induction a with
  | nil => intro b; cases b <;> rfl
  | cons x a ih =>
    intro b
    cases b with
    | nil => rfl
    | cons y b =>
      show bK (Nat.beq x.toNat y.toNat) (eqS a b) = _
      rw [ih, nbeq', List.cons_beq_cons]
      by_cases h : x = y
      · subst h; simp [bK]
      · have : x.toNat ≠ y.toNat := fun e => h (UInt8.toNat_inj.1 e)
        simp [this, h, bK]
theorem ltS_eq (a : List UInt8) : ∀ b, ltS a b = Op.bytesLess a b := by
  induction a with
  | nil => intro b; cases b <;> rfl
  | cons x a ih =>
    intro b
    cases b with
    | nil => rfl
    | cons y b =>
      show iK (Nat.beq x.toNat y.toNat) (ltS a b) (Nat.ble (Nat.succ x.toNat) y.toNat) = (x < y || (x == y && Op.bytesLess a b))
      rw [ih, nbeq', nble, iK_eq]
      by_cases h : x = y
      · subst h; simp
      · have h1 : x.toNat ≠ y.toNat := fun e => h (UInt8.toNat_inj.1 e)
        have h2 : (x == y) = false := by simpa using h
        simp only [h1, decide_false, Bool.false_eq_true, if_false, h2, Bool.false_and, Bool.or_false]
        rw [Bool.eq_iff_iff]; simp [UInt8.lt_iff_toNat_lt]; omega
theorem elEq_iff {a b : El} : elEq a b = true ↔ a = b := by
  cases a; cases b
  simp only [elEq, bK_iff, beqB_eq, nbeq, El.mk.injEq, beq_iff_eq]
def LM.st : LM → LoopState
  | .rdy => .ready
  | .bsy => .busy
  | _ => .done
def LM.pe : LM → Option Code
  | .ret => some .ret
  | .ex i => some (.exit i)
  | .gt i => some (.goto i)
  | _ => none
structure LD where
  nt : Nat
  e : Nat → AV
  ps : Array Tmp
  ca : Code
  cb : Code
deriving Inhabited
class LV where
  v : Nat → LD
def LD.obj (d : LD) (st : LoopState) (pe : Option Code) : AObj := .loop d.nt d.e d.ps d.ca d.cb st pe
def OB.abs [LV] (i : Nat) : OB → AObj
  | .non => .dead
  | .cells T n t => .cellsT T (lst .undef 0 n t)
  | .vec T el n t => .vecT T el (lst .undef 0 n t)
  | .siter s p => .siter s p
  | .resv => .resv
  | .map es => .map es
  | .loop m => (LV.v i).obj m.st m.pe
section
variable [LV]
def St.abs (s : St) : Store := (List.range s.n).map fun i => (s.t.get .non i).abs i
theorem St.abs_len (s : St) : s.abs.length = s.n := by simp [St.abs]
theorem St.getK_ok {s : St} {l : Nat} {K : OB → Bool} (h : s.getK l K = true) : ∃ o, s.abs[l]? = some (o.abs l) ∧ K o = true := by
  cases s with | mk n t =>
  have h : bK (Nat.ble (Nat.succ l) n) (Tr.getK .non t l K) = true := h
  rw [bK_iff, nble, Tr.getK_eq, decide_eq_true_eq] at h
  exact ⟨t.get .non l, by have : l < n := h.1; simp [St.abs, this], h.2⟩
theorem St.setK_ok' {s : St} {l : Nat} {o : OB} {K : St → Bool} (h : s.setK l o K = true) : ∃ s', (s'.n = s.n ∧ l < s.n ∧ ∀ i, s'.t.get .non i = if i = l then o else s.t.get .non i) ∧ K s' = true := by
  cases s with | mk n t =>
  have h : bK (Nat.ble (Nat.succ l) n) (Tr.setK .non 60 t l o fun t' => K ⟨n, t'⟩) = true := h
  rw [bK_iff, nble, decide_eq_true_eq] at h
  obtain ⟨t', h1, h2⟩ := Tr.setK_ok _ _ _ _ _ _ h.2
  exact ⟨⟨n, t'⟩, ⟨rfl, h.1, h2⟩, h1⟩
theorem St.abs_set {s s' : St} {l : Nat} {o : OB} (h : s'.n = s.n ∧ l < s.n ∧ ∀ i, s'.t.get .non i = if i = l then o else s.t.get .non i) : s'.abs = s.abs.set l (o.abs l) := by
  obtain ⟨h1, h0, h2⟩ := h
  apply List.ext_getElem
  · simp [St.abs, h1]
  · intro i h3 h4
    simp only [St.abs, List.getElem_map, List.getElem_range, List.getElem_set, h2]
    by_cases e : i = l
    · subst e; simp
    · rw [if_neg e, if_neg (fun h => e h.symm)]
theorem St.setK_ok {s : St} {l : Nat} {o : OB} {K : St → Bool} (h : s.setK l o K = true) : ∃ s', s'.abs = s.abs.set l (o.abs l) ∧ K s' = true := by
  obtain ⟨s', h1, h2⟩ := St.setK_ok' h
  exact ⟨s', St.abs_set h1, h2⟩
theorem St.pushK_ok' {s : St} {o : OB} {K : Nat → St → Bool} (h : s.pushK o K = true) : ∃ s', (s'.n = s.n + 1 ∧ ∀ i, s'.t.get .non i = if i = s.n then o else s.t.get .non i) ∧ K s.n s' = true := by
  cases s with | mk n t =>
  have h : (Tr.setK .non 60 t n o fun t' => fN (Nat.succ n) fun m => K n ⟨m, t'⟩) = true := h
  obtain ⟨t', h1, h2⟩ := Tr.setK_ok _ _ _ _ _ _ h
  rw [fN_eq] at h1
  exact ⟨⟨n + 1, t'⟩, ⟨rfl, h2⟩, h1⟩
theorem St.abs_push {s s' : St} {o : OB} (h : s'.n = s.n + 1 ∧ ∀ i, s'.t.get .non i = if i = s.n then o else s.t.get .non i) : s'.abs = s.abs ++ [o.abs s.abs.length] := by
  obtain ⟨h1, h2⟩ := h
  apply List.ext_getElem
  · simp [St.abs, h1]
  · intro i h3 h4
    simp only [St.abs, List.getElem_map, List.getElem_range, h2]
    by_cases e : i = s.n
    · subst e; simp
    · simp [St.abs, h1] at h3
      rw [if_neg e, List.getElem_append_left (by simp; omega)]; simp
theorem St.pushK_ok {s : St} {o : OB} {K : Nat → St → Bool} (h : s.pushK o K = true) : ∃ s', s'.abs = s.abs ++ [o.abs s.abs.length] ∧ K s.abs.length s' = true := by
  obtain ⟨s', h1, h2⟩ := St.pushK_ok' h
  exact ⟨s', St.abs_push h1, by rw [St.abs_len]; exact h2⟩
end
theorem St.abs_at {V V' : LV} {s : St} (h : ∀ i, i < s.n → V'.v i = V.v i ∨ s.t.get .non i = .non) : @St.abs V' s = @St.abs V s := by
  unfold St.abs
  apply List.map_congr_left
  intro i hi
  rcases h i (by simpa using hi) with e | e
  · generalize s.t.get .non i = ob
    cases ob <;> first | rfl | simp only [OB.abs, e]
  · rw [e]; rfl
theorem onCells_ok {o : OB} {K : Option TypeId → Nat → Tr AV → Bool} (h : onCells o K = true) : ∃ T n t, o = .cells T n t ∧ K T n t = true := by cases o <;> first | exact absurd (show false = true from h) Bool.false_ne_true | exact ⟨_, _, _, rfl, h⟩
theorem onVec_ok {o : OB} {K : Option TypeId → El → Nat → Tr AV → Bool} (h : onVec o K = true) : ∃ T el n t, o = .vec T el n t ∧ K T el n t = true := by cases o <;> first | exact absurd (show false = true from h) Bool.false_ne_true | exact ⟨_, _, _, _, rfl, h⟩
theorem onIter_ok {o : OB} {K : List UInt8 → Nat → Bool} (h : onIter o K = true) : ∃ s p, o = .siter s p ∧ K s p = true := by cases o <;> first | exact absurd (show false = true from h) Bool.false_ne_true | exact ⟨_, _, rfl, h⟩
theorem onResv_ok {o : OB} {K : Bool} (h : onResv o K = true) : o = .resv ∧ K = true := by cases o <;> first | exact absurd (show false = true from h) Bool.false_ne_true | exact ⟨rfl, h⟩
theorem onMap_ok {o : OB} {K : List (AV × AV) → Bool} (h : onMap o K = true) : ∃ es, o = .map es ∧ K es = true := by cases o <;> first | exact absurd (show false = true from h) Bool.false_ne_true | exact ⟨_, rfl, h⟩
theorem onLoop_ok {o : OB} {K : LM → Bool} (h : onLoop o K = true) : ∃ m, o = .loop m ∧ K m = true := by cases o <;> first | exact absurd (show false = true from h) Bool.false_ne_true | exact ⟨_, rfl, h⟩
theorem isRdy_ok {m : LM} {x : Bool} (h : isRdy m x = true) : m = .rdy ∧ x = true := by cases m <;> first | exact absurd (show false = true from h) Bool.false_ne_true | exact ⟨rfl, h⟩
theorem isBsy_ok {m : LM} {x : Bool} (h : isBsy m x = true) : m = .bsy ∧ x = true := by cases m <;> first | exact absurd (show false = true from h) Bool.false_ne_true | exact ⟨rfl, h⟩
theorem isYld_ok {g : AV} {Y : Nat → Bool} {X : Bool} (h : isYld g Y X = true) : (∃ l, g = .yld l ∧ Y l = true) ∨ X = true := by cases g <;> first | exact .inr h | exact .inl ⟨_, rfl, h⟩
theorem gamK_ok : ∀ {Γ : Gam} {l : Nat} {K : YK → Bool}, gamK Γ l K = true → ∃ y, (l, y) ∈ Γ ∧ K y = true
  | [], _, _, h => absurd (show false = true from h) Bool.false_ne_true
  | (m, y) :: r, l, K, h => by
    replace h : iK (Nat.beq m l) (K y) (gamK r l K) = true := h
    rw [iK_eq] at h
    split at h
    · rename_i e; obtain rfl := nbeq.1 e; exact ⟨y, by simp, h⟩
    · obtain ⟨z, h1, h2⟩ := gamK_ok h; exact ⟨z, List.mem_cons_of_mem _ h1, h2⟩
theorem freshG_ok : ∀ {Γ : Gam} {l : Nat}, freshG l Γ = true → ∀ p ∈ Γ, p.1 ≠ l
  | [], _, _, p, hp => by cases hp
  | (m, y) :: r, l, h, p, hp => by
    replace h : bK (notK (Nat.beq m l)) (freshG l r) = true := h
    rw [bK_iff, notK_eq, nbeq'] at h
    rcases List.mem_cons.1 hp with rfl | hp
    · simpa using h.1
    · exact freshG_ok h.2 p hp
theorem putArgsK_ok : ∀ (ps : List Nat) (az : List AV) (t : Tr AV) {K : Tr AV → Bool}, putArgsK ps az t K = true → ∃ t', t'.get .undef = putArgs ps az (t.get .undef) ∧ K t' = true
  | [], az, t, K, h => ⟨t, by cases az <;> rfl, h⟩
  | p :: ps, [], t, K, h => ⟨t, rfl, h⟩
  | p :: ps, a :: az, t, K, h => by
    obtain ⟨t1, h1, h2⟩ := Tr.setK_ok _ _ _ _ _ _ (show Tr.setK .undef 60 t p a (fun t' => putArgsK ps az t' K) = true from h)
    obtain ⟨t', h3, h4⟩ := putArgsK_ok ps az t1 h1
    refine ⟨t', ?_, h4⟩
    rw [h3]
    show putArgs ps az (t1.get .undef) = putArgs ps az (upd (t.get .undef) (some p) a)
    congr 1
    funext m; exact h2 m
theorem onInt_ok {x : AV} {K : IntKind → Int → Bool} (h : onInt x K = true) : ∃ k n, x = .int k n ∧ K k n = true := by cases x <;> first | exact absurd (show false = true from h) Bool.false_ne_true | exact ⟨_, _, rfl, h⟩
theorem onBool_ok {x : AV} {K : Bool → Bool} (h : onBool x K = true) : ∃ b, x = .bool b ∧ K b = true := by cases x <;> first | exact absurd (show false = true from h) Bool.false_ne_true | exact ⟨_, rfl, h⟩
theorem onStr_ok {x : AV} {K : List UInt8 → Bool} (h : onStr x K = true) : ∃ b, x = .str b ∧ K b = true := by cases x <;> first | exact absurd (show false = true from h) Bool.false_ne_true | exact ⟨_, rfl, h⟩
theorem onAgg_ok {x : AV} {K : List AV → Bool} (h : onAgg x K = true) : ∃ b, x = .agg b ∧ K b = true := by cases x <;> first | exact absurd (show false = true from h) Bool.false_ne_true | exact ⟨_, rfl, h⟩
theorem onTup_ok {x : AV} {K : List AV → Bool} (h : onTup x K = true) : ∃ b, x = .tup b ∧ K b = true := by cases x <;> first | exact absurd (show false = true from h) Bool.false_ne_true | exact ⟨_, rfl, h⟩
theorem onRef_ok {x : AV} {K : Nat → Nat → Bool} (h : onRef x K = true) : ∃ l off, x = .ref l off ∧ K l off = true := by cases x <;> first | exact absurd (show false = true from h) Bool.false_ne_true | exact ⟨_, _, rfl, h⟩
theorem onFn_ok {x : AV} {K : Fn → List AV → List AV → Bool} (h : onFn x K = true) : ∃ f a b, x = .fn f a b ∧ K f a b = true := by cases x <;> first | exact absurd (show false = true from h) Bool.false_ne_true | exact ⟨_, _, _, rfl, h⟩
theorem onIfc_ok {x : AV} {K : TypeId → AV → Bool} (h : onIfc x K = true) : ∃ t v, x = .ifc t v ∧ K t v = true := by cases x <;> first | exact absurd (show false = true from h) Bool.false_ne_true | exact ⟨_, _, rfl, h⟩
theorem onFunc_ok {f : Fn} {K : FuncId → Bool} (h : onFunc f K = true) : ∃ n, f = .func n ∧ K n = true := by cases f <;> first | exact absurd (show false = true from h) Bool.false_ne_true | exact ⟨_, rfl, h⟩
theorem cellsK_eq (x : AV) (K : List AV → Bool) : cellsK x K = K x.cells := by cases x <;> rfl
theorem scalB_eq (x : AV) : scalB x = x.scalar := by cases x <;> rfl
theorem allScal (l : List AV) : allB scalB l = l.all AV.scalar := by rw [allB_eq]; congr 1; funext x; exact scalB_eq x
theorem fitsB_eq (x : AV) (el : El) : fitsB x el = x.fits el := by
  cases el with | mk a z =>
  cases x <;> first
    | rfl
    | (show bK (notK a) (Nat.beq z 1) = (!a && z == 1)
       rw [notK_eq, nbeq']; cases a <;> simp [bK] <;> rfl)
    | (rename_i cs
       show bK a (bK (lenK cs 0 (Nat.beq z)) (allB scalB cs)) = (a && cs.length == z && cs.all AV.scalar)
       rw [len0, nbeq', allScal]
       cases a <;> simp [bK]
       by_cases h : z = cs.length
       · subst h; simp
       · have : ¬ cs.length = z := fun e => h e.symm
         simp [h, this])
theorem isNilL_iff {α : Type} {l : List α} : isNilL l = true ↔ l = [] := by cases l <;> simp [isNilL]
theorem evK_eq (x : AX) (t : Tr AV) (K : AV → Bool) : evK x t K = K (x.ev (t.get .undef)) := by
  cases x with
  | t n => exact Tr.getK_eq _ _ _ _
  | c a => rfl
theorem evsK_eq (l : List AX) (t : Tr AV) : ∀ (K : List AV → Bool), evsK l t K = K (l.map (AX.ev (t.get .undef))) := by
  induction l with
  | nil => intro K; rfl
  | cons a l ih => intro K; show (evK a t fun v => evsK l t fun l => K (v :: l)) = _; rw [evK_eq, ih]; rfl
end Go.AM.B
