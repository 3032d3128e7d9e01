/- Part of a proof: see Root. -/
import Derived.Test.YtnfendddolhcoaaGreatDoorW21
set_option linter.unnecessarySimpa false
set_option linter.unusedSectionVars false
set_option linter.unusedSimpArgs false
set_option linter.unusedVariables false
namespace Go.AM.B
variable [LV]
def NeOk (P : Program) (ne : FuncId → Bool) : Prop := ∀ f, ne f = true → ∃ fn, P.funcs[f]? = some fn ∧ (fn.name == "runtime.NumGoroutine") = false ∧ fn.body.isNone = true ∧ Extern.findNext fn = none ∧ Extern.find fn = some Extern.AbiNoEscape.same
def GamOk [V : LV] (P : Program) (H : Prop) (Γ : Gam) : Prop := ∀ V' : LV, (∀ p ∈ Γ, V'.v p.1 = V.v p.1) → ∀ p ∈ Γ, ∀ args s K, p.2 args s K = true → ∃ o s', K o s' = true ∧ (H → YieldA P p.1 args (@St.abs V' s) fun o' σ' => o' = o ∧ σ' = @St.abs V' s')
structure CtxOk [V : LV] (H : Prop) (c : Ctx) : Prop where
  ne : NeOk c.P c.ne
  cal : ∀ (V' : LV) (H : Prop) Γ, @GamOk V' c.P H Γ → ∀ n args s K, c.cal Γ n args s K = true → ∃ o s', K o s' = true ∧ (H → CallA c.P n args (@St.abs V' s) fun o' σ' => o' = o ∧ σ' = @St.abs V' s')
  gam : GamOk c.P H c.gam
theorem CtxOk.call {H : Prop} {c : Ctx} (hc : CtxOk H c) : ∀ n args s K, c.call n args s K = true → ∃ o s', K o s' = true ∧ (H → CallA c.P n args s.abs fun o' σ' => o' = o ∧ σ' = s'.abs) := hc.cal _ H _ hc.gam
theorem CtxOk.call0 {H : Prop} {c : Ctx} (hc : CtxOk H c) : ∀ n args s K, c.call0 n args s K = true → ∃ o s', K o s' = true ∧ CallA c.P n args s.abs fun o' σ' => o' = o ∧ σ' = s'.abs := fun n args s K h => by
  obtain ⟨o, s', h1, h2⟩ := hc.cal _ True [] (fun _ _ _ hp => by cases hp) n args s K h
  exact ⟨o, s', h1, h2 trivial⟩
theorem CtxOk.yield {H : Prop} {c : Ctx} (hc : CtxOk H c) : ∀ p ∈ c.gam, ∀ args s K, p.2 args s K = true → ∃ o s', K o s' = true ∧ (H → YieldA c.P p.1 args s.abs fun o' σ' => o' = o ∧ σ' = s'.abs) := hc.gam _ fun _ _ => rfl
theorem CtxOk.at {V : LV} {H : Prop} {c : Ctx} (hc : @CtxOk V H c) (V' : LV) (h : ∀ p ∈ c.gam, V'.v p.1 = V.v p.1) : @CtxOk V' H c :=
  @CtxOk.mk V' H c (@CtxOk.ne V H c hc) (@CtxOk.cal V H c hc) (fun V'' h'' p hp => @CtxOk.gam V H c hc V'' (fun q hq => (h'' q hq).trans (h q hq)) p hp)
theorem notStr_ok {x : AV} {X : Bool} (h : notStr x X = true) : (match (generalizing := false) x with | .str _ => False | _ => True) ∧ X = true := by
  cases x <;> first | exact no h rfl | exact ⟨trivial, h⟩
theorem boundK_le {x : AV} {y : Nat} {K : Nat → Bool} {K' : Nat → Prop} {d : Nat} (h : boundK (some x) d y K = true) (hK : ∀ n, n ≤ y → K n = true → K' n) : bound (some x) d y K' := by
  have := boundK_ok (K' := fun n => K n = true) h fun n h => h
  cases x <;> first | exact this.elim | skip
  case int k i =>
    obtain ⟨h1, h2, h3⟩ := this
    exact ⟨h1, h2, hK _ (by omega) h3⟩
theorem faddrP_ok {x : AV} {off : Nat} {K : AV → Bool} (h : faddrP x off K = true) : (∃ l o, x = .ref l o ∧ K (.ref l (o + off)) = true) ∨ (∃ el y o, x = .eref el y o ∧ K (.eref el y (o + off)) = true) ∨ (∃ el l m i o, x = .vref el l m i o ∧ K (.vref el l m i (o + off)) = true) := by
  cases x <;> first | exact no h rfl | skip
  case ref l o => exact .inl ⟨l, o, rfl, by rw [← fN_eq (o + off) fun o' => K (.ref l o')]; exact h⟩
  case eref el y o => exact .inr (.inl ⟨el, y, o, rfl, by rw [← fN_eq (o + off) fun o' => K (.eref el y o')]; exact h⟩)
  case vref el l m i o => exact .inr (.inr ⟨el, l, m, i, o, rfl, by rw [← fN_eq (o + off) fun o' => K (.vref el l m i o')]; exact h⟩)
theorem minsK_ok {op : Bool} {K : AV → Bool} {K' : AV → Prop} (hK : ∀ v, K v = true → K' v) : ∀ (ys : List AV) (x : AV), minsK op x ys K = true → minsA op x ys K'
  | [], x, h => by
    obtain ⟨k, a, rfl, h1⟩ := onInt_ok (show (onInt x fun k a => K (.int k a)) = true from h)
    exact hK _ h1
  | y :: ys, x, h => by
    obtain ⟨k, a, rfl, h1⟩ := onInt_ok (show (onInt x fun k a => onInt y fun _ b => iK (minP op a b) (minsK op (.int k b) ys K) (minsK op (.int k a) ys K)) = true from h)
    obtain ⟨k', b, rfl, h2⟩ := onInt_ok h1
    rw [iK_eq] at h2
    have e : minP op a b = (if op then decide (b < a) else decide (a < b)) := by unfold minP; rw [iK_eq, ltI_eq, ltI_eq]
    rw [e] at h2
    show minsA op (.int k (if op then (if b < a then b else a) else (if b > a then b else a))) ys K'
    refine minsK_ok hK ys _ ?_
    cases op with
    | true =>
      by_cases hb : b < a
      · simp only [hb, if_true, decide_true] at h2 ⊢; exact h2
      · simp only [hb, if_true, if_false, decide_false, Bool.false_eq_true] at h2 ⊢; exact h2
    | false =>
      by_cases hb : a < b
      · simp only [hb, gt_iff_lt, if_true, decide_true, Bool.false_eq_true, if_false] at h2 ⊢; exact h2
      · simp only [hb, gt_iff_lt, if_true, if_false, decide_false, Bool.false_eq_true] at h2 ⊢; exact h2
theorem heldK_ok {k : Nat} {t : Tr AV} {s : St} {K : Nat → Bool} (h : heldK k t s K = true) : ∃ n, t.get .undef k = .ref n 0 ∧ s.abs[n]? = some .resv ∧ K n = true := by
  replace h : (Tr.getK .undef t k fun v => onRef v fun n z => bK (Nat.beq z 0) (s.getK n fun o => onResv o (K n))) = true := h
  rw [Tr.getK_eq] at h
  obtain ⟨n, z, hv, h1⟩ := onRef_ok h
  rw [bK_iff, nbeq] at h1
  obtain ⟨rfl, h2⟩ := h1
  obtain ⟨o, ho, h3⟩ := St.getK_ok h2
  obtain ⟨rfl, h4⟩ := onResv_ok h3
  exact ⟨n, hv, ho, h4⟩
theorem callD_ok {H : Prop} {c : Ctx} (hc : CtxOk H c) {n : FuncId} {az : List AV} {s : St} {K : KT} {K' : AV → Store → Prop} (h : callD c n az s K = true) (hK : ∀ v s', K v s' = true → K' v s'.abs) : ∃ r, (∀ τ, CallQ c.P n az (s.abs ++ τ) r) ∧ K' r s.abs := by
  unfold callD at h
  rw [iK_eq] at h
  have ret : ∀ {o : Out} {K : AV → Bool}, onRet o K = true → ∃ v, o = .ret v ∧ K v = true := fun {o K} h => by cases o with | ret v => exact ⟨v, rfl, h⟩ | panic v => exact no h rfl
  split at h
  · rename_i hp
    rw [purL_eq] at hp
    obtain ⟨o, s', h1, h2⟩ := hc.call0 _ _ _ _ h
    obtain ⟨r0, rfl, h3⟩ := ret h1
    obtain ⟨r, h4, h5⟩ := frzK_ok _ _ _ _ h3
    have hF : CallF c.P n az r := CallF.of_nil (h2.mono fun o s ⟨h1, h2⟩ => by subst h1; subst h2; exact ⟨_, rfl, h4⟩) hp
    exact ⟨r, fun τ => hF _, hK _ _ h5⟩
  · obtain ⟨bz, e1, e2, e3⟩ := mapK_ok (R := fun a b => View s.abs a b) (frzK_ok s 30) az _ h
    have hv : ViewL s.abs az bz := ⟨e1, fun i hi => by
      have hi' : i < bz.length := by omega
      have := e2 (az[i], bz[i]) (by rw [List.mem_iff_getElem]; exact ⟨i, by simp; omega, by simp⟩)
      simpa [List.getD_eq_getElem?_getD, hi, hi'] using this⟩
    rw [bK_iff, purL_eq] at e3
    obtain ⟨hp, e3⟩ := e3
    obtain ⟨o, s', h1, h2⟩ := hc.call0 _ _ _ _ e3
    obtain ⟨r0, rfl, h3⟩ := ret h1
    obtain ⟨r, h4, h5⟩ := fnwK_ok _ _ _ _ h3
    exact ⟨r, fun τ => CallQ.of_new (h2.mono fun o s ⟨h1, h2⟩ => by subst h1; subst h2; exact ⟨_, rfl, h4⟩) ⟨hv.1, fun i hi => (hv.2 i hi).mono (fun l o hl => by
      rw [List.getElem?_append_left (List.getElem?_eq_some_iff.1 hl).1]; exact hl)⟩, hK _ _ h5⟩
def Ex (K : KT) (v : AV) (σ' : Store) : Prop := ∃ s' : St, σ' = s'.abs ∧ K v s' = true
theorem ex {K : KT} {v : AV} {s' : St} (h : K v s' = true) : Ex K v s'.abs := ⟨s', rfl, h⟩
theorem methK_ok {H : Prop} {c : Ctx} (hc : CtxOk H c) {n : FuncId} {x : AV} {r : List AV} {s : St} {K : KT} (h : methK c n x r s K = true) : methA c.P n (x :: r) s.abs (Ex K) := by
  obtain ⟨l, off, rfl, h1⟩ := onRef_ok h
  rw [bK_iff, purL_eq] at h1
  obtain ⟨hr, h1⟩ := h1
  obtain ⟨o, ho, h2⟩ := St.getK_ok h1
  obtain ⟨T, k, tr, rfl, h3⟩ := onCells_ok h2
  rw [bK_iff, isNoT_iff, lstK_eq, bK_iff, purL_eq] at h3
  obtain ⟨rfl, hcs, h4⟩ := h3
  obtain ⟨s1, e1, h5⟩ := St.pushK_ok h4
  have e1 : s1.abs = [.cells (lst .undef 0 k tr)] := by rw [e1]; rfl
  obtain ⟨out, s', h6, h7⟩ := hc.call0 _ _ _ _ h5
  cases out with
  | panic v => exact no h6 rfl
  | ret r0 =>
  replace h6 := (show (s'.getK 0 fun o' => onCells o' fun T' k' tr' => bK (isNoT T') (s'.setK 0 .non fun s2 => lstK .undef k' 0 tr' fun ds0 => frzK s2 30 r0 fun r => mapK (frzK s2 30) ds0 fun ds => ofK .undef ds 0 .nil fun k2 tr2 => s.setK l (.cells none k2 tr2) fun s3 => K r s3)) = true from h6)
  obtain ⟨o', ho', h8⟩ := St.getK_ok h6
  obtain ⟨T', k', tr', rfl, h9⟩ := onCells_ok h8
  rw [bK_iff, isNoT_iff] at h9
  obtain ⟨rfl, h9⟩ := h9
  obtain ⟨s2, e2, h10⟩ := St.setK_ok h9
  rw [lstK_eq] at h10
  obtain ⟨r', hv, h11⟩ := frzK_ok _ _ _ _ h10
  obtain ⟨ds, d1, d2, h12⟩ := mapK_ok (R := fun a b => View s2.abs a b) (frzK_ok s2 30) _ _ h11
  obtain ⟨tr2, h13, d3⟩ := ofK_nil _ h12
  obtain ⟨s3, e3, h14⟩ := St.setK_ok h13
  have hvl : ViewL s2.abs (lst .undef 0 k' tr') ds := ⟨d1, fun i hi => by
    have hi' : i < ds.length := by omega
    have := d2 ((lst .undef 0 k' tr')[i], ds[i]) (by rw [List.mem_iff_getElem]; exact ⟨i, by simp; omega, by simp⟩)
    simpa [List.getD_eq_getElem?_getD, hi, hi'] using this⟩
  obtain ⟨τ, hτ⟩ : ∃ τ, s'.abs = .cells (lst .undef 0 k' tr') :: τ := by
    match hs : s'.abs, ho' with
    | a :: τ, ho' => cases ho'; exact ⟨τ, rfl⟩
  have e2 : s2.abs = .dead :: τ := by rw [e2, hτ]; rfl
  rw [e2] at hv hvl
  have hM : CallM c.P n off r (lst .undef 0 k tr) ds r' := by
    refine CallM.of_one ?_ hr hcs
    rw [← e1]
    exact h7.mono fun o σ ⟨k1, k2⟩ => ⟨r0, _, τ, k1, k2.trans hτ, hv, hvl⟩
  refine ⟨l, _, .cells ds, r', rfl, ho, trivial, hM _ _ ho, ?_⟩
  refine ⟨s3, ?_, h14⟩
  rw [e3]; simp only [OB.abs, d3]
theorem on1_ok {l : List AV} {K : AV → Bool} (h : on1 l K = true) : ∃ a, l = [a] ∧ K a = true := by
  cases l with
  | nil => exact no h rfl
  | cons a r =>
    obtain ⟨h1, h2⟩ := bK_iff.1 (show bK (isNilL r) (K a) = true from h)
    rw [isNilL_iff] at h1
    exact ⟨a, by rw [h1], h2⟩
theorem on2_ok {l : List AV} {K : AV → AV → Bool} (h : on2 l K = true) : ∃ a b, l = [a, b] ∧ K a b = true := by
  cases l with
  | nil => exact no h rfl
  | cons a r => obtain ⟨b, h1, h2⟩ := on1_ok (show on1 r (K a) = true from h); exact ⟨a, b, by rw [h1], h2⟩
theorem on3_ok {l : List AV} {K : AV → AV → AV → Bool} (h : on3 l K = true) : ∃ a b c, l = [a, b, c] ∧ K a b c = true := by
  cases l with
  | nil => exact no h rfl
  | cons a r => obtain ⟨b, c, h1, h2⟩ := on2_ok (show on2 r (K a) = true from h); exact ⟨a, b, c, by rw [h1], h2⟩
theorem on4_ok {l : List AV} {K : AV → AV → AV → AV → Bool} (h : on4 l K = true) : ∃ a b c d, l = [a, b, c, d] ∧ K a b c d = true := by
  cases l with
  | nil => exact no h rfl
  | cons a r => obtain ⟨b, c, d, h1, h2⟩ := on3_ok (show on3 r (K a) = true from h); exact ⟨a, b, c, d, by rw [h1], h2⟩
theorem bound3K_ok {lo : Option AV} {hi mx : AV} {cap : Nat} {K : Nat → Nat → Nat → Bool} {K' : Nat → Nat → Nat → Prop} (h : bound3K lo hi mx cap K = true) (hK : ∀ a b c, K a b c = true → K' a b c) : bound3 lo hi mx cap K' :=
  boundK_ok h fun _ h => boundK_ok h fun _ h => boundK_ok h fun _ h => hK _ _ _ h
theorem sl3P_ok {x : AV} {s : St} {el : El} {lo : Option AV} {hi mx : AV} {K : KT} (h : sl3P x s el lo hi mx K = true) : sl3A s.abs el x lo hi mx (Ex K) := by
  cases x <;> first | exact no h rfl | skip
  case nils => exact bound3K_ok (show bound3K lo hi mx 0 (fun _ _ _ => K .nils s) = true from h) fun _ _ _ h => ex h
  case lst f el' xs =>
    obtain ⟨h1, h2⟩ := bK_iff.1 (show bK (elEq el' el) (lenK xs 0 fun n => bound3K lo hi mx n fun l h m => fN (Nat.sub h l) fun k => cutK xs l k fun ys => iK (Nat.beq h m) (K (.lst true el ys) s) (K (.lst false el ys) s)) = true from h)
    rw [len0] at h2
    refine ⟨elEq_iff.1 h1, bound3K_ok h2 fun l h m hh => ?_⟩
    rw [fN_eq, cutK_eq, iK_eq] at hh
    by_cases e : h = m
    · subst e
      rw [if_pos (nbeq.2 rfl)] at hh
      simp only [BEq.rfl]
      exact ex hh
    · rw [if_neg (fun e' => e (nbeq.1 e'))] at hh
      rw [show (h == m) = false by simpa using e]
      exact ex hh
  case own el' l0 m0 o n =>
    obtain ⟨h1, h2⟩ := bK_iff.1 (show bK (elEq el' el) (vecK el l0 m0 s fun _ t => bK (Nat.ble (Nat.add o n) m0) (bound3K lo hi mx n fun l h m => iK (Nat.beq m l) (K (.lst true el []) s) (bK (Nat.beq h m) (fN (Nat.add o l) fun o' => fN (Nat.sub h l) fun k => lstK .undef k o' t fun ys => s.setK l0 .non fun s' => K (.lst true el ys) s')))) = true from h)
    obtain ⟨T, t, ho, h3⟩ := vecK_ok h2
    rw [bK_iff, nble, decide_eq_true_eq] at h3
    refine ⟨elEq_iff.1 h1, ?_⟩
    simp only [ho]
    refine ⟨trivial, by rw [lst_length], h3.1, ?_⟩
    have hb : bound3 lo hi mx n fun l h m => l ≤ h ∧ h ≤ m ∧ m ≤ n ∧ (if m = l then Ex K (.lst true el []) s.abs else h = m ∧ ∃ s', s'.abs = s.abs.set l0 .dead ∧ K (.lst true el (lst .undef (o + l) (h - l) t)) s' = true) := by
      have h4 := h3.2
      unfold bound3K at h4
      unfold bound3
      refine boundK_le h4 fun m hm h4 => boundK_le h4 fun h hh h4 => ?_
      have step : ∀ l, l ≤ h → (iK (Nat.beq m l) (K (.lst true el []) s) (bK (Nat.beq h m) (fN (Nat.add o l) fun o' => fN (Nat.sub h l) fun k => lstK .undef k o' t fun ys => s.setK l0 .non fun s' => K (.lst true el ys) s'))) = true → l ≤ h ∧ h ≤ m ∧ m ≤ n ∧ (if m = l then Ex K (.lst true el []) s.abs else h = m ∧ ∃ s', s'.abs = s.abs.set l0 .dead ∧ K (.lst true el (lst .undef (o + l) (h - l) t)) s' = true) := fun l hl h5 => by
        refine ⟨hl, hh, hm, ?_⟩
        rw [iK_eq] at h5
        by_cases e : m = l
        · rw [if_pos (nbeq.2 e)] at h5
          rw [if_pos e]; exact ex h5
        · rw [if_neg (fun e' => e (nbeq.1 e')), bK_iff, nbeq, fN_eq, fN_eq, lstK_eq] at h5
          rw [if_neg e]
          obtain ⟨s', h6, h7⟩ := St.setK_ok h5.2
          exact ⟨h5.1, s', h6, h7⟩
      cases lo with
      | none => exact step 0 (Nat.zero_le _) h4
      | some lo => exact boundK_le h4 fun l hl h4 => step l hl h4
    refine bound3_mono (fun l h m hh => ?_) hb
    obtain ⟨k1, k2, k3, hh⟩ := hh
    by_cases e : m = l
    · rw [if_pos e] at hh ⊢; exact hh
    · rw [if_neg e] at hh ⊢
      obtain ⟨e2, s', k4, k5⟩ := hh
      refine ⟨e2, s', k4.symm, ?_⟩
      rw [lst_cut _ (by have : o + n ≤ m0 := h3.1; omega)]
      exact k5
theorem sl3Q_ok {x : AV} {s : St} {el : El} {lo : Option AV} {hi mx : AV} {K : KT} (h : sl3Q x s el lo hi mx K = true) : sl3pA el x lo hi mx fun v => Ex K v s.abs := by
  cases x <;> first | exact no h rfl | skip
  case nils => exact sl3P_ok (show sl3P .nils s el lo hi mx K = true from h)
  case lst f el' xs => exact sl3P_ok (show sl3P (.lst f el' xs) s el lo hi mx K = true from h)
  case own el' l0 m0 o n =>
    obtain ⟨h1, h2⟩ := bK_iff.1 (show bK (elEq el' el) (bound3K lo hi mx 0 fun _ _ _ => K (.lst true el []) s) = true from h)
    refine ⟨elEq_iff.1 h1, ?_⟩
    unfold bound3K at h2
    exact boundK_ok h2 fun m h3 => boundK_ok h3 fun b h4 => boundK_ok h4 fun l h5 => ex h5
theorem keyP_ok {k q : AV} {K : Bool → Bool} (h : keyP k q K = true) : ∃ b, keyEq k q = some b ∧ K b = true := by
  cases k <;> first | exact no h rfl | skip
  case int k a =>
    obtain ⟨k', b, rfl, h1⟩ := onInt_ok (show (onInt q fun k' b => bK (kEq k k') (K (eqI a b))) = true from h)
    rw [bK_iff, kEq_iff, eqI_eq] at h1
    exact ⟨_, by simp [keyEq, h1.1], h1.2⟩
  case str a =>
    obtain ⟨b, rfl, h1⟩ := onStr_ok (show (onStr q fun b => K (eqS a b)) = true from h)
    rw [eqS_eq] at h1
    exact ⟨_, rfl, h1⟩
theorem keyOk_ok {kd : Option IntKind} {k : AV} (h : keyOk kd k = true) : k.keyK kd = true := by
  cases kd with
  | none => obtain ⟨b, rfl, _⟩ := onStr_ok (show (onStr k fun _ => true) = true from h); rfl
  | some q =>
    obtain ⟨k', b, rfl, h1⟩ := onInt_ok (show (onInt k fun k' _ => kEq q k') = true from h)
    rw [kEq_iff] at h1
    subst h1
    simp [AV.keyK]
theorem lkI_ok {k : AV} {Kf : Nat → AV → Bool} {Kn : Nat → Bool} : ∀ (es : List (AV × AV)) (i : Nat), lkI k Kf Kn es i = true → (mapFind k es i = some none ∧ Kn (i + es.length) = true) ∨ ∃ j v, mapFind k es i = some (some (j, v)) ∧ Kf j v = true
  | [], i, h => .inl ⟨rfl, h⟩
  | (q, v) :: es, i, h => by
    obtain ⟨b, h1, h2⟩ := keyP_ok (show (keyP k q fun b => iK b (Kf i v) (fN (Nat.succ i) (lkI k Kf Kn es))) = true from h)
    rw [iK_eq, fN_eq] at h2
    cases b with
    | true => exact .inr ⟨i, v, by simp [mapFind, h1], by simpa using h2⟩
    | false =>
      rcases lkI_ok es (i + 1) (by simpa using h2) with ⟨h3, h4⟩ | ⟨j, u, h3, h4⟩
      · exact .inl ⟨by simp [mapFind, h1, h3], by rw [List.length_cons, show i + (es.length + 1) = i + 1 + es.length by omega]; exact h4⟩
      · exact .inr ⟨j, u, by simp [mapFind, h1, h3], h4⟩
theorem lkK_ok {k : AV} {Kf : AV → Bool} {Kn : Bool} : ∀ (es : List (AV × AV)) (i : Nat), lkK k Kf Kn es = true → (mapFind k es i = some none ∧ Kn = true) ∨ ∃ j v, mapFind k es i = some (some (j, v)) ∧ Kf v = true
  | [], i, h => .inl ⟨rfl, h⟩
  | (q, v) :: es, i, h => by
    obtain ⟨b, h1, h2⟩ := keyP_ok (show (keyP k q fun b => iK b (Kf v) (lkK k Kf Kn es)) = true from h)
    rw [iK_eq] at h2
    cases b with
    | true => exact .inr ⟨i, v, by simp [mapFind, h1], by simpa using h2⟩
    | false =>
      rcases lkK_ok es (i + 1) (by simpa using h2) with ⟨h3, h4⟩ | ⟨j, u, h3, h4⟩
      · exact .inl ⟨by simp [mapFind, h1, h3], h4⟩
      · exact .inr ⟨j, u, by simp [mapFind, h1, h3], h4⟩
theorem mapFind_shift {k : AV} : ∀ (es : List (AV × AV)) (i d : Nat), mapFind k es (i + d) = (mapFind k es i).map (fun r => r.map fun p => (p.1 + d, p.2))
  | [], i, d => rfl
  | (q, v) :: es, i, d => by
    simp only [mapFind]
    split
    · rfl
    · rw [show i + d + 1 = (i + 1) + d by omega]; exact mapFind_shift es (i + 1) d
    · rfl
theorem mapSetK_ok {k v : AV} : ∀ (es : List (AV × AV)) (K : List (AV × AV) → Bool), mapSetK k v es K = true → ∃ es', mapSet k v es = some es' ∧ K es' = true
  | [], K, h => ⟨_, rfl, h⟩
  | (q, u) :: es, K, h => by
    obtain ⟨b, h1, h2⟩ := keyP_ok (show (keyP k q fun b => iK b (K ((k, v) :: es)) (mapSetK k v es fun r' => K ((q, u) :: r'))) = true from h)
    rw [iK_eq] at h2
    cases b with
    | true => exact ⟨(k, v) :: es, by simp [mapSet, mapFind, h1], by simpa using h2⟩
    | false =>
      obtain ⟨es', h3, h4⟩ := mapSetK_ok es _ (by simpa using h2)
      refine ⟨_, ?_, h4⟩
      have hs := mapFind_shift (k := k) es 0 1
      simp only [mapSet, mapFind, h1, Nat.zero_add] at h3 hs ⊢
      rw [hs]
      generalize mapFind k es 0 = r at h3
      cases r with
      | none => cases h3
      | some r =>
        cases r with
        | none => simp only [Option.some.injEq] at h3; subst h3; rfl
        | some p => simp only [Option.some.injEq] at h3; subst h3; rfl
theorem retL_ok {ok : Bool} {v : AV} {b : Bool} {K : AV → Bool} (h : retL ok v b K = true) : K (if ok then .tup [v, .bool b] else v) = true := by
  unfold retL at h; rw [iK_eq] at h; cases ok <;> exact h
theorem slAK_ok {el : El} {n : Nat} {p : AV} {lo hi : Option AV} {K : AV → Bool} {K' : AV → Prop} (h : slAK el n p lo hi K = true) (hK : ∀ v, K v = true → K' v) : slAA el n p lo hi K' := by
  obtain ⟨h1, h2⟩ := bK_iff.1 h
  refine ⟨by cases p <;> first | rfl | exact no h1 rfl, boundK_ok h2 fun h h3 => boundK_ok h3 fun l h4 => ?_⟩
  rw [iK_eq] at h4
  by_cases e : h = l
  · rw [if_pos (nbeq.2 e)] at h4
    rw [if_pos e]; exact hK _ h4
  · rw [if_neg (fun e' => e (nbeq.1 e'))] at h4
    rw [if_neg e]
    have hz : elSz el = el.sz := by cases el; rfl
    rcases faddrP_ok h4 with ⟨l', o, rfl, h5⟩ | ⟨el', y, o, rfl, h5⟩ | ⟨el', l', m, i, o, rfl, h5⟩
    · rw [fN_eq, hz] at h5; exact hK _ h5
    · rw [fN_eq, hz] at h5; exact hK _ h5
    · rw [fN_eq, hz] at h5; exact hK _ h5
theorem copyP_ok {x : AV} {el : El} {ys : List AV} {s : St} {K : KT} (h : copyP x el ys s K = true) : copyTo s.abs el x ys (Ex K) := by
  have hlen : ∀ n, (ys.take n).length = min ys.length n := fun n => by rw [List.length_take]; omega
  cases x <;> first | exact no h rfl | skip
  case nils => exact ex (show K (.int .i64 0) s = true from h)
  case lst f el' xs =>
    obtain ⟨h1, h2⟩ := bK_iff.1 (show bK (isNilL xs) (bK (elEq el' el) (K (.int .i64 0) s)) = true from h)
    rw [isNilL_iff] at h1
    subst h1
    rw [bK_iff] at h2
    exact ⟨elEq_iff.1 h2.1, ex h2.2⟩
  case asl el' p n =>
    obtain ⟨h1, h2⟩ := bK_iff.1 (show bK (elEq el' el) (bK (elEq el el8) (takeK ys n fun zs => lenK zs 0 fun k => storeK s k p (.agg zs) fun s' => K (.int .i64 (Int.ofNat k)) s')) = true from h)
    rw [bK_iff, takeK_eq, len0, hlen] at h2
    exact ⟨elEq_iff.1 h1, elEq_iff.1 h2.1, storeK_ok (K' := fun σ' => Ex K (.int .i64 (min ys.length n : Nat)) σ') h2.2 fun s' hs => ex hs⟩
  case own el' l m o n =>
    obtain ⟨h1, h2⟩ := bK_iff.1 (show bK (elEq el' el) (vecK el l m s fun T t => bK (Nat.ble (Nat.add o n) m) (takeK ys n fun zs => lenK zs 0 fun k => ofK .undef zs o t fun _ t' => s.setK l (.vec T el m t') fun s' => K (.int .i64 (Int.ofNat k)) s')) = true from h)
    obtain ⟨T, t, ho, h3⟩ := vecK_ok h2
    rw [bK_iff, nble, decide_eq_true_eq, takeK_eq, len0] at h3
    have hle : o + n ≤ m := h3.1
    obtain ⟨k, t', h4, h5⟩ := ofK_set (n := m) (by rw [hlen]; omega) h3.2
    obtain ⟨s', h6, h7⟩ := St.setK_ok h4
    rw [hlen] at h7
    refine ⟨elEq_iff.1 h1, ?_⟩
    simp only [ho]
    refine ⟨trivial, by rw [lst_length], hle, s', ?_, h7⟩
    rw [h6]; simp only [OB.abs, h5]
theorem apxP_ok {x y : AV} {el : El} {s : St} {K : KT} (h : apxP x el y s K = true) : apxA s.abs el x y (Ex K) := by
  have keep : ∀ x, (∀ el' l m lo n, x = .own el' l m lo n → lo = 0) → appK s none el x y K = true → apxA s.abs el x y (Ex K) := fun x hx h => by
    have := appK_ok (K' := Ex K) h fun v s' hv => ex hv
    unfold apxA
    split
    · rename_i el' l m lo n; exact absurd (hx _ _ _ _ _ rfl) (Nat.succ_ne_zero _)
    · exact this
  cases x
  case own el' l m lo n =>
    cases lo with
    | zero => exact keep _ (fun _ _ _ _ _ e => by cases e; rfl) h
    | succ lo =>
      replace h : apxO el' l m (lo + 1) n el y s K = true := h
      obtain ⟨h1, h2⟩ := bK_iff.1 h
      refine ⟨elEq_iff.1 h1, listK_ok h2 fun ys h3 => ?_⟩
      rw [bK_iff, allB_eq] at h3
      refine ⟨by rw [← h3.1]; congr 1; funext a; exact (fitsB_eq a el).symm, ?_⟩
      obtain ⟨T, t, ho, h4⟩ := vecK_ok h3.2
      rw [bK_iff, nbeq, lstK_eq, appendK_eq] at h4
      obtain ⟨h5, h6⟩ := h4
      have h5 : lo + 1 + n = m := h5
      obtain ⟨s1, h7, h8⟩ := St.setK_ok h6
      obtain ⟨t', h9, h10⟩ := ofK_nil _ h8
      rw [bK_iff] at h9
      obtain ⟨s2, h11, h12⟩ := St.pushK_ok h9.2
      have hd : (lst .undef 0 m t).drop (lo + 1) = lst .undef (lo + 1) n t := by
        have := lst_cut (d := AV.undef) (lo := lo + 1) (k := n) (n := m) (t := t) (by omega)
        rw [← this]
        exact (List.take_of_length_le (by simp [lst_length]; omega)).symm
      have hlen : (lst .undef (lo + 1) n t ++ ys).length = n + ys.length := by rw [List.length_append, lst_length]
      simp only [ho]
      refine ⟨trivial, by rw [lst_length], h5, ?_, ?_⟩
      · have := roomB_ok h9.1; rwa [hlen] at this
      · refine ⟨s2, ?_, ?_⟩
        · rw [h11, h7]
          simp only [OB.abs, h10, hd]
        · have e : s1.abs.length = s.abs.length := by rw [h7]; simp
          rw [e, hlen] at h12
          exact h12
  all_goals exact keep _ (fun _ _ _ _ _ e => by cases e) h
theorem eqL_ok {f : AV → AV → Bool} (hf : ∀ a b, f a b = true → a = b) : ∀ (cs ds : List AV), eqL f cs ds = true → cs = ds
  | [], ds, h => by
    replace h : isNilL ds = true := h
    exact (isNilL_iff.1 h).symm
  | a :: cs, [], h => no h rfl
  | a :: cs, d :: ds, h => by
    obtain ⟨h1, h2⟩ := bK_iff.1 (show bK (f a d) (eqL f cs ds) = true from h)
    rw [hf _ _ h1, eqL_ok hf cs ds h2]
theorem eqN_ok : ∀ (k : Nat) (a b : AV), eqN k a b = true → a = b := by
  intro k
  induction k with
  | zero => intro a b h; exact no h rfl
  | succ k ih =>
    intro a b h
    cases a <;> first | exact no h rfl | skip
    case bool x =>
      obtain ⟨y, rfl, h1⟩ := onBool_ok (show (onBool b fun b' => beqB x b') = true from h)
      rw [beqB_eq] at h1; rw [beq_iff_eq.1 h1]
    case int q n =>
      obtain ⟨k', n', rfl, h1⟩ := onInt_ok (show (onInt b fun k' n' => bK (kEq q k') (eqI n n')) = true from h)
      rw [bK_iff, kEq_iff, eqI_eq, beq_iff_eq] at h1
      rw [h1.1, h1.2]
    case str s =>
      obtain ⟨t, rfl, h1⟩ := onStr_ok (show (onStr b fun s' => eqS s s') = true from h)
      rw [eqS_eq, beq_iff_eq] at h1; rw [h1]
    case agg cs =>
      obtain ⟨ds, rfl, h1⟩ := onAgg_ok (show (onAgg b fun ds => eqL (eqN k) cs ds) = true from h)
      rw [eqL_ok ih _ _ h1]
    case tup cs =>
      obtain ⟨ds, rfl, h1⟩ := onTup_ok (show (onTup b fun ds => eqL (eqN k) cs ds) = true from h)
      rw [eqL_ok ih _ _ h1]
    case ref l off =>
      obtain ⟨l', o', rfl, h1⟩ := onRef_ok (show (onRef b fun l' o' => bK (Nat.beq l l') (Nat.beq off o')) = true from h)
      rw [bK_iff, nbeq, nbeq] at h1; rw [h1.1, h1.2]
    case mp l =>
      replace h : (onMp b fun l' => Nat.beq l l') = true := h
      cases b <;> first | exact no h rfl | skip
      rw [nbeq.1 (show Nat.beq l _ = true from h)]
    case lst f el xs =>
      replace h : eqLst b f el xs (eqN k) = true := h
      cases b <;> first | exact no h rfl | skip
      rename_i f' el' xs'
      replace h : bK (beqB f f') (bK (elEq el el') (eqL (eqN k) xs xs')) = true := h
      rw [bK_iff, bK_iff, beqB_eq, beq_iff_eq, elEq_iff] at h
      rw [h.1, h.2.1, eqL_ok ih _ _ h.2.2]
    case own el l m lo n =>
      replace h : eqOwn b el l m lo n = true := h
      cases b <;> first | exact no h rfl | skip
      rename_i el' l' m' lo' n'
      replace h : bK (elEq el el') (bK (Nat.beq l l') (bK (Nat.beq m m') (bK (Nat.beq lo lo') (Nat.beq n n')))) = true := h
      rw [bK_iff, bK_iff, bK_iff, bK_iff, elEq_iff, nbeq, nbeq, nbeq, nbeq] at h
      obtain ⟨rfl, rfl, rfl, rfl, rfl⟩ := h
      rfl
    all_goals (cases b <;> first | exact no h rfl | rfl)
mutual
theorem noB_eq (k : Nat) : ∀ (x : AV), noB k x = x.noL k
  | .undef | .bool _ | .int .. | .str _ | .nils | .nilp | .nilf | .nili | .nilm | .opq => rfl
  | .own _ l _ _ _ | .ref l _ | .vref _ l _ _ _ | .mp l | .yld l => by
    show notK (Nat.beq l k) = !(l == k)
    rw [notK_eq, nbeq', Bool.eq_iff_iff]; simp
  | .asl _ p _ => noB_eq k p
  | .agg cs => noA_eq k cs
  | .tup cs => noA_eq k cs
  | .lst _ _ xs => noA_eq k xs
  | .eref _ x _ => noB_eq k x
  | .ifc _ v => noB_eq k v
  | .fn f a b => by
    show bK (noB k (.agg a)) (noB k (.agg b)) = (AV.noLs k a && AV.noLs k b)
    rw [noA_eq k a, noA_eq k b]; cases AV.noLs k a <;> rfl
theorem noA_eq (k : Nat) : ∀ (x : List AV), noB k (.agg x) = AV.noLs k x
  | [] => rfl
  | a :: l => by
    show bK (noB k a) (noB k (.agg l)) = (a.noL k && AV.noLs k l)
    rw [noB_eq k a, noA_eq k l]; cases a.noL k <;> rfl
end
theorem allT_get {α : Type} {f : α → Bool} {d : α} (hd : f d = true) : ∀ (t : Tr α), allT f t = true → ∀ i, f (t.get d i) = true
  | .nil, _, i => hd
  | .node v l r, h, i => by
    have h : bK (f v) (bK (allT f l) (allT f r)) = true := h
    rw [bK_iff, bK_iff] at h
    cases i with
    | zero => exact h.1
    | succ i =>
      simp only [Tr.get]
      split
      · exact allT_get hd l h.2.1 _
      · exact allT_get hd r h.2.2 _
theorem noLs_of {k : Nat} {l : List AV} (h : ∀ a ∈ l, a.noL k = true) : AV.noLs k l = true := by
  induction l with
  | nil => rfl
  | cons a l ih => simp only [AV.noLs, h a (by simp), ih fun b hb => h b (by simp [hb]), Bool.and_true]
theorem noLs_lst {k n : Nat} {t : Tr AV} (h : allT (noB k) t = true) : AV.noLs k (lst .undef 0 n t) = true := by
  refine noLs_of fun a ha => ?_
  obtain ⟨i, _, rfl⟩ := List.mem_map.1 ha
  rw [← noB_eq]
  exact allT_get rfl t h i
theorem noOB_ok {k i : Nat} {o : OB} (h : noOB k o = true) : (o.abs i).noL k = true := by
  cases o with
  | non | siter | resv => rfl
  | cells T n t => exact noLs_lst h
  | vec T el n t => exact noLs_lst h
  | map es =>
    have h : allB (fun p => @Prod.rec AV AV (fun _ => Bool) (fun a b => bK (noB k a) (noB k b)) p) es = true := h
    rw [allB_eq, List.all_eq_true] at h
    show (es.all fun p => p.1.noL k && p.2.noL k) = true
    rw [List.all_eq_true]
    intro p hp
    have := h p hp
    obtain ⟨a, b⟩ := p
    replace this : bK (noB k a) (noB k b) = true := this
    rw [bK_iff, noB_eq, noB_eq] at this
    simp [this.1, this.2]
  | loop m => exact no h rfl
theorem noSt_ok {k : Nat} {s : St} (h : noSt k s = true) : noAll k s.abs = true := by
  cases s with | mk n t =>
  have h : allT (noOB k) t = true := h
  unfold noAll
  rw [List.all_eq_true]
  intro o ho
  obtain ⟨i, _, rfl⟩ := List.mem_map.1 ho
  exact noOB_ok (allT_get rfl t h i)
theorem allNo {k : Nat} {az : List AV} (h : allB (noB k) az = true) : AV.noLs k az = true := by
  rw [allB_eq, List.all_eq_true] at h
  exact noLs_of fun a ha => by rw [← noB_eq]; exact h a ha
theorem resvK_ok {az : List AV} {s s2 : St} {p : AV} (h : resvK az s s2 p = true) : resvA az s.abs s2.abs p := by
  obtain ⟨m, z, rfl, h0⟩ := onRef_ok h
  replace h0 : bK (Nat.beq z 0) (s2.getK m fun o2 => isResv o2 (s.getK m fun o => onResv o (bK (allB (noB m) az) (noSt m s))) true) = true := h0
  rw [bK_iff, nbeq] at h0
  obtain ⟨rfl, h1⟩ := h0
  obtain ⟨o2, h2, h3⟩ := St.getK_ok h1
  show s2.abs[m]? = some .resv → _
  intro e
  rw [h2] at e
  have e := Option.some.inj e
  cases o2 <;> first | (simp [OB.abs, LD.obj] at e; done) | skip
  replace h3 : (s.getK m fun o => onResv o (bK (allB (noB m) az) (noSt m s))) = true := h3
  obtain ⟨o, h4, h5⟩ := St.getK_ok h3
  obtain ⟨rfl, h6⟩ := onResv_ok h5
  rw [bK_iff] at h6
  exact ⟨h4, allNo h6.1, noSt_ok h6.2⟩
theorem keepsK_ok {az : List AV} {s s2 : St} : ∀ (lds : List (Bool × Nat)) (ps : List AV) (K : Bool), keepsK az s s2 lds ps K = true → keepsA az s.abs s2.abs lds ps ∧ K = true
  | [], ps, K, h => ⟨trivial, h⟩
  | (ag, n) :: r, [], K, h => no h rfl
  | (ag, 0) :: r, p :: ps, K, h => by
    have h : bK (resvK az s s2 p) (keepsK az s s2 r ps K) = true := h
    rw [bK_iff] at h
    obtain ⟨h8, h9⟩ := keepsK_ok r ps K h.2
    exact ⟨⟨.inr (by rw [if_pos rfl]; exact resvK_ok h.1), h8⟩, h9⟩
  | (ag, n + 1) :: r, p :: ps, K, h => by
    have h0 : (fN (Nat.succ n) fun n => loadK p s ag n fun v => loadK p s2 ag n fun u => bK (eqN 30 v u) (keepsK az s s2 r ps K)) = true := h
    rw [fN_eq] at h0
    have h1 := loadK_ok (K' := fun v => (loadK p s2 ag (n + 1) fun u => bK (eqN 30 v u) (keepsK az s s2 r ps K)) = true) (show (loadK p s ag (n + 1) fun v => loadK p s2 ag (n + 1) fun u => bK (eqN 30 v u) (keepsK az s s2 r ps K)) = true from h0) fun v h => h
    obtain ⟨v, h2, h3⟩ := loadA_ex h1
    have h4 := loadK_ok (K' := fun u => eqN 30 v u = true ∧ keepsK az s s2 r ps K = true) h3 fun u h => bK_iff.1 h
    obtain ⟨u, h5, h6, h7⟩ := loadA_ex h4
    obtain rfl := eqN_ok _ _ _ h6
    obtain ⟨h8, h9⟩ := keepsK_ok r ps K h7
    exact ⟨⟨.inr (by rw [if_neg (by omega)]; exact ⟨v, by simpa using h2 [], by simpa using h5 []⟩), h8⟩, h9⟩
theorem xopK_run {o : XOp} {H : Prop} {c : Ctx} (hc : CtxOk H c) {vs : List AV} {s : St} {K Kp : KT} (hi : ∀ n, o ≠ .inv n) (h : XOp.K o c vs s K Kp = true) : o.run c.P vs s.abs (Ex K) No := by
  cases o with
  | inv n => exact absurd rfl (hi n)
  | pc n => exact no h rfl
  | sl3 el lo =>
    replace h : iK lo (on4 vs fun x l h m => sl3P x s el (some l) h m K) (on3 vs fun x h m => sl3P x s el none h m K) = true := h
    rw [iK_eq] at h
    cases lo with
    | true => obtain ⟨x, l, hh, m, rfl, h1⟩ := on4_ok (by simpa using h); exact sl3P_ok h1
    | false => obtain ⟨x, hh, m, rfl, h1⟩ := on3_ok (by simpa using h); exact sl3P_ok h1
  | appL el =>
    obtain ⟨x, y, rfl, h1⟩ := on2_ok (show (on2 vs fun x y => listK y s el fun ys => bK (allB (fun a => fitsB a el) ys) (lenK ys 0 fun n => bK (notK (Nat.beq n 0)) (appLP x el ys n s fun v => K v s))) = true from h)
    show listA s.abs el y (fun ys => ys.all (fun a => a.fits el) = true ∧ ys.length ≠ 0 ∧ match (generalizing := false) x with
      | .nils => roomOk ys.length el ∧ Ex K (.lst false el ys) s.abs
      | .lst true el' xs => el' = el ∧ roomOk (xs.length + ys.length) el ∧ Ex K (.lst false el (xs ++ ys)) s.abs
      | _ => False)
    refine listK_ok h1 fun ys h2 => ?_
    rw [bK_iff, allB_eq, len0, bK_iff] at h2
    obtain ⟨h3, h4, h5⟩ := h2
    refine ⟨by rw [← h3]; congr 1; funext a; exact (fitsB_eq a el).symm, fun e => ?_, ?_⟩
    · rw [e] at h4; exact no h4 rfl
    · cases x <;> first | exact no h5 rfl | skip
      case nils =>
        obtain ⟨h6, h7⟩ := bK_iff.1 (show bK (roomB ys.length el) (K (.lst false el ys) s) = true from h5)
        exact ⟨roomB_ok h6, ex h7⟩
      case lst f el' xs =>
        obtain ⟨h6, h7⟩ := bK_iff.1 (show bK f (bK (elEq el' el) (lenK xs ys.length fun m => bK (roomB m el) (appendK xs ys fun zs => K (.lst false el zs) s))) = true from h5)
        subst h6
        rw [bK_iff, lenK_eq, bK_iff, appendK_eq] at h7
        exact ⟨elEq_iff.1 h7.1, by have := roomB_ok h7.2.1; rwa [Nat.add_comm] at this, ex h7.2.2⟩
  | nilS neg =>
    obtain ⟨x, rfl, h1⟩ := on1_ok (show (on1 vs fun x => nilSP x s fun r => K (.bool (iK neg (notK r) r)) s) = true from h)
    have hb : ∀ r, (iK neg (notK r) r) = (if neg then !r else r) := fun r => by cases neg <;> cases r <;> rfl
    show nilSA s.abs x fun r => Ex K (.bool (if neg then !r else r)) s.abs
    cases x <;> first | exact no h1 rfl | skip
    case nils => show Ex K (.bool (if neg then !true else true)) s.abs; rw [← hb]; exact ex h1
    case lst f el xs =>
      replace h1 : iK (isNilL xs) false (K (.bool (iK neg (notK false) false)) s) = true := h1
      cases xs with
      | nil => exact no h1 rfl
      | cons x xs => show Ex K _ _; rw [← hb]; exact ex h1
    case asl el p n => show Ex K _ _; rw [← hb]; exact ex h1
    case own el l m lo n =>
      obtain ⟨o, ho, h2⟩ := St.getK_ok (show (s.getK l fun o => onVec o fun _ _ k _ => bK (Nat.beq m k) (bK (Nat.ble 1 n) (K (.bool (iK neg (notK false) false)) s))) = true from h1)
      obtain ⟨T, el', k, t, rfl, h3⟩ := onVec_ok h2
      rw [bK_iff, bK_iff, nbeq, nble, decide_eq_true_eq] at h3
      show match s.abs[l]? with
        | some (.vecT _ _ xs) => m = xs.length ∧ 0 < n ∧ Ex K (.bool (if neg then !false else false)) s.abs
        | _ => False
      rw [ho]
      refine ⟨by simp only [lst_length]; exact h3.1, h3.2.1, ?_⟩
      rw [← hb]; exact ex h3.2.2
  | nilU neg => cases h
  | cw n k lds =>
    cases vs with
    | nil => exact no h rfl
    | cons x r =>
      replace h : (takeK (x :: r) k fun az => c.call0 n az s fun o s' => onRet o fun v => dropK (x :: r) k fun ps => keepsK az s s' lds ps (K v s')) = true := h
      rw [takeK_eq] at h
      obtain ⟨out, s', h1, h2⟩ := hc.call0 _ _ _ _ h
      cases out with
      | panic v => exact no h1 rfl
      | ret v =>
        replace h1 : (dropK (x :: r) k fun ps => keepsK ((x :: r).take k) s s' lds ps (K v s')) = true := h1
        rw [dropK_eq] at h1
        obtain ⟨h3, h4⟩ := keepsK_ok _ _ _ h1
        exact ⟨v, s'.abs, h2, h3, ex h4⟩
  | sl3p el lo =>
    replace h : iK lo (on4 vs fun x l h m => sl3Q x s el (some l) h m K) (on3 vs fun x h m => sl3Q x s el none h m K) = true := h
    rw [iK_eq] at h
    cases lo with
    | true => obtain ⟨x, l, hh, m, rfl, h1⟩ := on4_ok (by simpa using h); exact sl3Q_ok h1
    | false => obtain ⟨x, hh, m, rfl, h1⟩ := on3_ok (by simpa using h); exact sl3Q_ok h1
  | mkmap =>
    obtain ⟨h1, h2⟩ := bK_iff.1 (show bK (isNilL vs) (s.pushK (.map []) fun l s' => K (.mp l) s') = true from h)
    rw [isNilL_iff] at h1
    subst h1
    obtain ⟨s', h3, h4⟩ := St.pushK_ok h2
    exact ⟨s', h3.symm, h4⟩
  | lkup kd ok zero =>
    obtain ⟨x, k, rfl, h1⟩ := on2_ok (show (on2 vs fun x k => bK (keyOk kd k) (lkupP x k s ok zero fun v => K v s)) = true from h)
    rw [bK_iff] at h1
    obtain ⟨h2, h3⟩ := h1
    cases x <;> first | exact no h3 rfl | skip
    case nilm => exact ⟨keyOk_ok h2, ex (retL_ok (K := fun v => K v s) (show retL ok zero false (fun v => K v s) = true from h3))⟩
    case mp l =>
      obtain ⟨ob, ho, h4⟩ := St.getK_ok (show (s.getK l fun o => onMap o fun es => lkK k (fun v => retL ok v true fun v => K v s) (retL ok zero false fun v => K v s) es) = true from h3)
      obtain ⟨es, rfl, h5⟩ := onMap_ok h4
      refine ⟨keyOk_ok h2, ?_⟩
      simp only [ho, OB.abs]
      rcases lkK_ok es 0 h5 with ⟨h6, h7⟩ | ⟨j, v, h6, h7⟩
      · simp only [h6]; exact ex (retL_ok (K := fun v => K v s) h7)
      · simp only [h6]; exact ex (retL_ok (K := fun v => K v s) h7)
  | mapset kd =>
    obtain ⟨x, k, v, rfl, h1⟩ := on3_ok (show (on3 vs fun x k v => bK (keyOk kd k) (onMp x fun l => s.getK l fun o => onMap o fun es => mapSetK k v es fun es' => s.setK l (.map es') fun s' => K (.tup []) s')) = true from h)
    rw [bK_iff] at h1
    obtain ⟨h2, h3⟩ := h1
    cases x <;> first | exact no h3 rfl | skip
    case mp l =>
      obtain ⟨ob, ho, h4⟩ := St.getK_ok (show (s.getK l fun o => onMap o fun es => mapSetK k v es fun es' => s.setK l (.map es') fun s' => K (.tup []) s') = true from h3)
      obtain ⟨es, rfl, h5⟩ := onMap_ok h4
      obtain ⟨es', h6, h7⟩ := mapSetK_ok es _ h5
      obtain ⟨s', h8, h9⟩ := St.setK_ok h7
      refine ⟨keyOk_ok h2, ?_⟩
      simp only [ho, OB.abs, h6]
      exact ⟨s', h8.symm, h9⟩
  | lenm =>
    obtain ⟨x, rfl, h1⟩ := on1_ok (show (on1 vs fun x => lenmP x s fun v => K v s) = true from h)
    cases x <;> first | exact no h1 rfl | skip
    case nilm => exact ex h1
    case mp l =>
      obtain ⟨ob, ho, h4⟩ := St.getK_ok (show (s.getK l fun o => onMap o fun es => lenK es 0 fun n => K (.int .i64 (Int.ofNat n)) s) = true from h1)
      obtain ⟨es, rfl, h5⟩ := onMap_ok h4
      rw [len0] at h5
      show match s.abs[l]? with | some (.map es) => Ex K (.int .i64 es.length) s.abs | _ => False
      rw [ho]
      exact ex h5
  | slA el n lo up =>
    replace h : iK lo (iK up (on3 vs fun p a b => slAK el n p (some a) (some b) fun v => K v s) (on2 vs fun p a => slAK el n p (some a) none fun v => K v s))
      (iK up (on2 vs fun p b => slAK el n p none (some b) fun v => K v s) (on1 vs fun p => slAK el n p none none fun v => K v s)) = true := h
    rw [iK_eq, iK_eq, iK_eq] at h
    cases lo <;> cases up
    · obtain ⟨p, rfl, h1⟩ := on1_ok (by simpa using h); exact slAK_ok (K' := fun v => Ex K v s.abs) h1 fun v hv => ex hv
    · obtain ⟨p, b, rfl, h1⟩ := on2_ok (by simpa using h); exact slAK_ok (K' := fun v => Ex K v s.abs) h1 fun v hv => ex hv
    · obtain ⟨p, a, rfl, h1⟩ := on2_ok (by simpa using h); exact slAK_ok (K' := fun v => Ex K v s.abs) h1 fun v hv => ex hv
    · obtain ⟨p, a, b, rfl, h1⟩ := on3_ok (by simpa using h); exact slAK_ok (K' := fun v => Ex K v s.abs) h1 fun v hv => ex hv
  | copy el =>
    obtain ⟨x, y, rfl, h1⟩ := on2_ok (show (on2 vs fun x y => listK y s el fun ys => bK (allB (fun a => fitsB a el) ys) (copyP x el ys s K)) = true from h)
    show listA s.abs el y (fun ys => ys.all (fun a => a.fits el) = true ∧ copyTo s.abs el x ys (Ex K))
    refine listK_ok h1 fun ys h2 => ?_
    rw [bK_iff, allB_eq] at h2
    exact ⟨by rw [← h2.1]; congr 1; funext a; exact (fitsB_eq a el).symm, copyP_ok h2.2⟩
  | apx el =>
    obtain ⟨x, y, rfl, h1⟩ := on2_ok (show (on2 vs fun x y => apxP x el y s K) = true from h)
    exact apxP_ok h1
  | tas T ok z =>
    obtain ⟨x, rfl, h1⟩ := on1_ok (show (on1 vs fun x => tasP x T ok z fun v => K v s) = true from h)
    show tasA T ok z x fun v => Ex K v s.abs
    cases x <;> first | exact no h1 rfl | skip
    case nili => obtain ⟨h2, h3⟩ := bK_iff.1 (show bK ok (K (.tup [z, .bool false]) s) = true from h1); exact ⟨h2, ex h3⟩
    case ifc t v =>
      replace h1 : iK (Nat.beq t T) (iK ok (K (.tup [v, .bool true]) s) (K v s)) (bK ok (K (.tup [z, .bool false]) s)) = true := h1
      rw [iK_eq, nbeq'] at h1
      by_cases e : t = T
      · rw [if_pos (decide_eq_true e), iK_eq] at h1
        show if t = T then _ else _
        rw [if_pos e]
        cases ok <;> exact ex h1
      · rw [if_neg (fun h => e (of_decide_eq_true h)), bK_iff] at h1
        show if t = T then _ else _
        rw [if_neg e]
        exact ⟨h1.1, ex h1.2⟩
  | s2a n =>
    obtain ⟨x, rfl, h1⟩ := on1_ok (show (on1 vs fun x => s2aP x n s K) = true from h)
    cases x <;> first | exact no h1 rfl | skip
    case lst f el' xs =>
      replace h1 : bK (elEq el' el8) (bK (Nat.ble 1 n) (bK (lenK xs 0 (Nat.ble n)) (takeK xs n fun ys => K (.eref ⟨true, n⟩ (.agg ys) 0) s))) = true := h1
      rw [bK_iff, bK_iff, bK_iff, elEq_iff, nble, len0, nble, decide_eq_true_eq, decide_eq_true_eq, takeK_eq] at h1
      exact ⟨h1.1, h1.2.1, h1.2.2.1, ex h1.2.2.2⟩
    case own el' l m o k =>
      obtain ⟨h2, h3⟩ := bK_iff.1 (show bK (elEq el' el8) (vecK el8 l m s fun _ t => bK (Nat.ble (Nat.add o k) m) (bK (Nat.ble 1 n) (bK (Nat.ble n k) (lstK .undef n o t fun ys => s.setK l .non fun s' => K (.eref ⟨true, n⟩ (.agg ys) 0) s')))) = true from h1)
      obtain ⟨T, t, ho, h4⟩ := vecK_ok h3
      rw [bK_iff, bK_iff, bK_iff, nble, nble, nble, decide_eq_true_eq, decide_eq_true_eq, decide_eq_true_eq, lstK_eq] at h4
      obtain ⟨h5, h6, h7, h8⟩ := h4
      obtain ⟨s', h9, h10⟩ := St.setK_ok h8
      refine ⟨elEq_iff.1 h2, ?_⟩
      show match (generalizing := false) s.abs[l]? with
        | some (.vecT _ el'' xs) => el'' = ⟨false, 1⟩ ∧ m = xs.length ∧ o + k ≤ m ∧ 0 < n ∧ n ≤ k ∧ Ex K (.eref ⟨true, n⟩ (.agg ((xs.drop o).take n)) 0) (s.abs.set l .dead)
        | _ => False
      rw [ho]
      have h5 : o + k ≤ m := h5
      refine ⟨rfl, by rw [lst_length], h5, h6, h7, ?_⟩
      have e1 := lst_cut (d := AV.undef) (lo := o) (k := n) (n := m) (t := t) (by omega)
      rw [e1]
      exact ⟨s', h9.symm, h10⟩
  | ment kd z =>
    obtain ⟨x, k, rfl, h1⟩ := on2_ok (show (on2 vs fun x k => bK (keyOk kd k) (onMp x fun l => s.getK l fun o => onMap o fun es => lkI k (fun i v => K (.tup [v, .int .i64 (Int.ofNat i)]) s) (fun i => appendK es [(k, z)] fun es' => s.setK l (.map es') fun s' => K (.tup [z, .int .i64 (Int.ofNat i)]) s') es 0)) = true from h)
    rw [bK_iff] at h1
    obtain ⟨h2, h3⟩ := h1
    cases x <;> first | exact no h3 rfl | skip
    case mp l =>
      obtain ⟨ob, ho, h4⟩ := St.getK_ok (show (s.getK l fun o => onMap o fun es => lkI k (fun i v => K (.tup [v, .int .i64 (Int.ofNat i)]) s) (fun i => appendK es [(k, z)] fun es' => s.setK l (.map es') fun s' => K (.tup [z, .int .i64 (Int.ofNat i)]) s') es 0) = true from h3)
      obtain ⟨es, rfl, h5⟩ := onMap_ok h4
      refine ⟨keyOk_ok h2, ?_⟩
      simp only [ho, OB.abs]
      rcases lkI_ok es 0 h5 with ⟨h6, h7⟩ | ⟨j, v, h6, h7⟩
      · simp only [h6]
        rw [appendK_eq, Nat.zero_add] at h7
        obtain ⟨s', h8, h9⟩ := St.setK_ok h7
        exact ⟨s', h8.symm, h9⟩
      · simp only [h6]; exact ex h7
  | ests =>
    obtain ⟨x, b, v, rfl, h1⟩ := on3_ok (show (on3 vs fun x b v => onMp x fun l => onInt b fun k z => bK (kEq k .i64) (natI z fun i => s.getK l fun o => onMap o fun es => bK (lenK es 0 (Nat.ble (Nat.succ i))) (nthK default es i fun p => @Prod.rec AV AV (fun _ => Bool) (fun q _ => setLK es i (q, v) fun es' => s.setK l (.map es') fun s' => K (.tup []) s') p))) = true from h)
    cases x <;> first | exact no h1 rfl | skip
    case mp l =>
      obtain ⟨k, z, rfl, h2⟩ := onInt_ok (show (onInt b fun k z => bK (kEq k .i64) (natI z fun i => s.getK l fun o => onMap o fun es => bK (lenK es 0 (Nat.ble (Nat.succ i))) (nthK default es i fun p => @Prod.rec AV AV (fun _ => Bool) (fun q _ => setLK es i (q, v) fun es' => s.setK l (.map es') fun s' => K (.tup []) s') p))) = true from h1)
      rw [bK_iff, kEq_iff] at h2
      obtain ⟨rfl, h3⟩ := h2
      obtain ⟨hz, h4⟩ := natI_ok h3
      obtain ⟨ob, ho, h5⟩ := St.getK_ok h4
      obtain ⟨es, rfl, h6⟩ := onMap_ok h5
      rw [bK_iff, len0, nble, decide_eq_true_eq, nthK_eq] at h6
      obtain ⟨h7, h8⟩ := h6
      show match (generalizing := false) s.abs[l]? with
        | some (.map es) => 0 ≤ z ∧ z.toNat < es.length ∧ Ex K (.tup []) (s.abs.set l (.map (es.set z.toNat ((es.getD z.toNat default).1, v))))
        | _ => False
      rw [ho]
      refine ⟨hz, h7, ?_⟩
      replace h8 : (setLK es z.toNat ((es.getD z.toNat default).1, v) fun es' => s.setK l (.map es') fun s' => K (.tup []) s') = true := h8
      rw [setLK_eq] at h8
      obtain ⟨s', h9, h10⟩ := St.setK_ok h8
      exact ⟨s', h9.symm, h10⟩
  | frz => cases h
  | clr el z =>
    obtain ⟨x, rfl, h1⟩ := on1_ok (show (on1 vs fun x => clrP x el z s fun s' => K (.tup []) s') = true from h)
    cases x <;> first | exact no h1 rfl | skip
    case nils => exact ex h1
    case lst f el' xs =>
      obtain ⟨h2, h3⟩ := bK_iff.1 (show bK (isNilL xs) (K (.tup []) s) = true from h1)
      rw [isNilL_iff] at h2
      subst h2
      exact ex h3
    case own el' l m o n =>
      obtain ⟨h2, h3⟩ := bK_iff.1 (show bK (elEq el' el) (bK (fitsB z el) (vecK el l m s fun T t => bK (Nat.ble (Nat.add o n) m) (repK z n fun zs => ofK .undef zs o t fun _ t' => s.setK l (.vec T el m t') fun s' => K (.tup []) s'))) = true from h1)
      obtain ⟨h4, h5⟩ := bK_iff.1 h3
      obtain ⟨T, t, ho, h6⟩ := vecK_ok h5
      rw [bK_iff, nble, decide_eq_true_eq, repK_eq] at h6
      obtain ⟨h7, h8⟩ := h6
      have h7 : o + n ≤ m := h7
      obtain ⟨k, t', h9, h10⟩ := ofK_set (n := m) (by rw [List.length_replicate]; omega) h8
      obtain ⟨s', h11, h12⟩ := St.setK_ok h9
      refine ⟨elEq_iff.1 h2, by rw [← fitsB_eq]; exact h4, ?_⟩
      show match (generalizing := false) s.abs[l]? with
        | some (.vecT T el'' xs) => el'' = el ∧ m = xs.length ∧ o + n ≤ m ∧ Ex K (.tup []) (s.abs.set l (.vecT T el (setMany xs o (List.replicate n z))))
        | _ => False
      rw [ho]
      refine ⟨rfl, by rw [lst_length], h7, s', ?_, h12⟩
      rw [h11]; simp only [OB.abs, h10]
theorem xopK_ex {o : XOp} {H : Prop} {c : Ctx} (hc : CtxOk H c) {vs : List AV} {s : St} {K Kp : KT} (h : XOp.K o c vs s K Kp = true) : ∃ out s', outK K Kp out s' = true ∧ o.run c.P vs s.abs (fun v σ' => out = .ret v ∧ σ' = s'.abs) (fun v σ' => out = .panic v ∧ σ' = s'.abs) := by
  by_cases hi : ∃ n, o = .inv n
  · obtain ⟨name, rfl⟩ := hi
    cases vs with
    | nil => exact no h rfl
    | cons x r =>
      obtain ⟨T, v, rfl, h1⟩ := onIfc_ok (show (onIfc x fun T v => @Option.rec FuncId (fun _ => Bool) false (fun f => c.call0 f (v :: r) s (outK K Kp)) (methOf c.P T name)) = true from h)
      generalize hm : methOf c.P T name = mm at h1
      cases mm with
      | none => exact no h1 rfl
      | some f =>
        obtain ⟨out, s', h2, h3⟩ := hc.call0 _ _ _ _ (show c.call0 f (v :: r) s (outK K Kp) = true from h1)
        refine ⟨out, s', h2, ?_⟩
        simp only [XOp.run, hm]
        refine h3.mono ?_
        rintro o' σ' ⟨rfl, rfl⟩
        cases o' <;> exact ⟨rfl, rfl⟩
  · obtain ⟨v, σ', h1, s', rfl, h2⟩ := XOp.det (by cases o <;> first | exact absurd ⟨_, rfl⟩ hi | exact no h rfl | (intro e; cases e)) (xopK_run hc (Kp := Kp) (fun n e => hi ⟨n, e⟩) h)
    exact ⟨.ret v, s', h2, XOp.run_mono (fun v' s'' e => by obtain ⟨rfl, rfl⟩ := e; exact ⟨rfl, rfl⟩) (fun _ _ h => False.elim h) h1⟩
theorem opK_run {o : AOp} {H : Prop} {c : Ctx} (hc : CtxOk H c) {t : Tr AV} {s : St} {K Kp : KT} (hcl : o.cls ≠ .no) (h : AOp.K o c t s K Kp = true) : o.run c.P (t.get .undef) s.abs (Ex K) No := by
  cases o
  case ex o xs =>
    replace h : (evsK xs t fun vs => XOp.K o c vs s K Kp) = true := h
    rw [evsK_eq] at h
    exact xopK_run hc (fun n e => by subst e; exact hcl rfl) h
  case mv x => replace h : (evK x t fun v => K v s) = true := h; rw [evK_eq] at h; exact ex h
  case pick cc a b =>
    replace h : (evK cc t fun v => onBool v fun y => iK y (evK a t fun v => K v s) (evK b t fun v => K v s)) = true := h
    rw [evK_eq] at h
    obtain ⟨y, hy, h1⟩ := onBool_ok h
    rw [iK_eq, evK_eq, evK_eq] at h1
    simp only [AOp.run, hy]
    cases y <;> exact ex h1
  case alloc T cs =>
    obtain ⟨t', h1, h2⟩ := ofK_nil _ (show (ofK .undef cs 0 .nil fun n t' => s.pushK (.cells T n t') fun l s' => K (.ref l 0) s') = true from h)
    obtain ⟨s', h3, h4⟩ := St.pushK_ok h1
    simp only [AOp.run]
    exact ⟨s', by rw [h3]; simp only [OB.abs, h2], h4⟩
  case box x =>
    replace h : (evK x t fun v => cellsK v fun cs => bK (allB scalB cs) (ofK .undef cs 0 .nil fun n t' => s.pushK (.cells none n t') fun l s' => K (.ref l 0) s')) = true := h
    rw [evK_eq, cellsK_eq, bK_iff, allScal] at h
    obtain ⟨t', h1, h2⟩ := ofK_nil _ h.2
    obtain ⟨s', h3, h4⟩ := St.pushK_ok h1
    exact ⟨h.1, s', by rw [h3]; simp only [OB.abs, h2], h4⟩
  case boxT T x =>
    replace h : (evK x t fun v => cellsK v fun cs => bK (allB scalB cs) (ofK .undef cs 0 .nil fun n t' => s.pushK (.cells (some T) n t') fun l s' => K (.ref l 0) s')) = true := h
    rw [evK_eq, cellsK_eq, bK_iff, allScal] at h
    obtain ⟨t', h1, h2⟩ := ofK_nil _ h.2
    obtain ⟨s', h3, h4⟩ := St.pushK_ok h1
    exact ⟨h.1, s', by rw [h3]; simp only [OB.abs, h2], h4⟩
  case build z ps => exact buildK_ok (K' := fun cs => Ex K (.agg cs) s.abs) (fun l hl => ex hl) ps z h
  case bslice mt el zero n ps =>
    replace h : (repK zero n fun z => bsliceK el ps z t fun xs => iK mt (ofK .undef xs 0 .nil fun n' t' => s.pushK (.vec none el n' t') fun l s' => K (.own el l n 0 n) s') (K (.lst true el xs) s)) = true := h
    rw [repK_eq] at h
    refine bsliceK_ok (K' := fun xs => if mt then Ex K (.own el s.abs.length n 0 n) (s.abs ++ [.vec el xs]) else Ex K (.lst true el xs) s.abs) (fun xs hx => ?_) ps _ h
    rw [iK_eq] at hx
    cases mt with
    | true =>
      rw [if_pos rfl] at hx ⊢
      obtain ⟨t', h1, h2⟩ := ofK_nil _ hx
      obtain ⟨s', h3, h4⟩ := St.pushK_ok h1
      exact ⟨s', by rw [h3]; simp only [OB.abs, h2], h4⟩
    | false => rw [if_neg (by simp)] at hx ⊢; exact ex hx
  case load ag n x =>
    replace h : (evK x t fun v => loadK v s ag n fun u => K u s) = true := h
    rw [evK_eq] at h
    exact loadK_ok (K' := fun v => Ex K v s.abs) h fun v hv => ex hv
  case store n x v =>
    replace h : (evK x t fun p => evK v t fun u => storeK s n p u fun s' => K (.tup []) s') = true := h
    rw [evK_eq, evK_eq] at h
    exact storeK_ok (K' := fun σ => Ex K (.tup []) σ) h fun s' hv => ex hv
  case nilck x =>
    replace h : (evK x t fun v => nilckP v s K) = true := h
    rw [evK_eq] at h
    simp only [AOp.run]
    generalize x.ev (t.get .undef) = v at h ⊢
    cases v
    case fn f a b => obtain ⟨n, rfl, h1⟩ := onFunc_ok (show (onFunc f fun n => K (.fn (.func n) a b) s) = true from h); exact ex h1
    all_goals first | exact no h rfl | exact ex h
  case bin op x y =>
    replace h : (evK x t fun a => evK y t fun b => binP a op b fun v => K v s) = true := h
    rw [evK_eq, evK_eq] at h
    exact binP_ok (K' := fun v => Ex K v s.abs) h fun v hv => ex hv
  case eqf neg ag ks x y =>
    replace h : (evK x t fun a => evK y t fun b => eqfK ag ks a b fun r => tB (negB neg r) fun v => K v s) = true := h
    rw [evK_eq, evK_eq] at h
    obtain ⟨r, h1, h2⟩ := eqfK_ok h
    rw [tB_eq, negB_eq] at h2
    show (match eqfE ag ks (x.ev (t.get .undef)) (y.ev (t.get .undef)) with | some b => Ex K (.bool (if neg then !b else b)) s.abs | none => False)
    rw [h1]
    exact ex h2
  case un op x =>
    replace h : (evK x t fun a => unK op a fun v => K v s) = true := h
    rw [evK_eq] at h
    exact unK_ok (K' := fun v => Ex K v s.abs) h fun v hv => ex hv
  case cint k x =>
    replace h : (evK x t fun a => onInt a fun _ n => wrapF k n fun v => K v s) = true := h
    rw [evK_eq] at h
    obtain ⟨k', n, hx, h1⟩ := onInt_ok h
    rw [wrapF_eq] at h1
    simp only [AOp.run, hx]; exact ex h1
  case cid x =>
    replace h : (evK x t fun a => onStr a fun b => K (.str b) s) = true := h
    rw [evK_eq] at h
    obtain ⟨b, hx, h1⟩ := onStr_ok h
    simp only [AOp.run, hx]; exact ex h1
  case s2b x =>
    replace h : (evK x t fun a => onStr a fun b => byteAV b fun xs => ofK .undef xs 0 .nil fun n t' => bK (Nat.ble n 1099511627776) (s.pushK (.vec none el8 n t') fun l s' => K (.own el8 l n 0 n) s')) = true := h
    rw [evK_eq] at h
    obtain ⟨b, hx, h1⟩ := onStr_ok h
    rw [byteAV_eq] at h1
    obtain ⟨t', h2, h3⟩ := ofK_nil _ h1
    rw [bK_iff, nble, decide_eq_true_eq] at h2
    obtain ⟨s', h4, h5⟩ := St.pushK_ok h2.2
    simp only [AOp.run, hx]
    rw [List.length_map] at h2 h5
    simp only [OB.abs] at h4
    rw [h3] at h4
    exact ⟨h2.1, s', h4.symm, h5⟩
  case b2s x =>
    replace h : (evK x t fun a => notStr a (listK a s el8 fun xs => bytesK xs fun b => K (.str b) s)) = true := h
    rw [evK_eq] at h
    simp only [AOp.run]
    have hh := notStr_ok h
    exact ⟨hh.1, listK_ok hh.2 fun xs hx => by obtain ⟨b, h1, h2⟩ := bytesK_ok _ _ hx; exact ⟨b, h1, ex h2⟩⟩
  case mkifc T x => replace h : (evK x t fun a => K (.ifc T a) s) = true := h; rw [evK_eq] at h; exact ex h
  case mkfn f a b => replace h : (evsK a t fun az => evsK b t fun bz => K (.fn f az bz) s) = true := h; rw [evsK_eq, evsK_eq] at h; exact ex h
  case slS x lo hi =>
    replace h : (evK x t fun a => onStr a fun b => evOK hi t fun hv => evOK lo t fun lv => lenK b 0 fun n => boundK hv n n fun h => boundK lv 0 h fun l => fN (Nat.sub h l) fun k => cutK b l k fun c => K (.str c) s) = true := h
    rw [evK_eq] at h
    obtain ⟨b, hx, h1⟩ := onStr_ok h
    rw [evOK_eq, evOK_eq, len0] at h1
    simp only [AOp.run, hx]
    refine boundK_ok h1 fun m hm => boundK_ok hm fun l hl => ?_
    rw [fN_eq, cutK_eq] at hl
    exact ex hl
  case slL el x lo hi =>
    replace h : (evK x t fun a => evOK hi t fun hv => evOK lo t fun lv => slLP a s el lv hv K) = true := h
    rw [evK_eq, evOK_eq, evOK_eq] at h
    simp only [AOp.run]
    generalize x.ev (t.get .undef) = v at h ⊢
    cases v <;> first | exact no h rfl | skip
    case nils =>
      refine boundK_ok (show (boundK (hi.map (AX.ev (t.get .undef))) 0 0 fun h => boundK (lo.map (AX.ev (t.get .undef))) 0 h fun _ => K .nils s) = true from h) fun m hm => boundK_ok hm fun l hl => ex hl
    case lst f el' xs =>
      obtain ⟨h1, h2⟩ := bK_iff.1 (show bK (elEq el' el) (lenK xs 0 fun n => boundK (hi.map (AX.ev (t.get .undef))) n n fun h => boundK (lo.map (AX.ev (t.get .undef))) 0 h fun l => fN (Nat.sub h l) fun k => cutK xs l k fun ys => K (.lst false el ys) s) = true from h)
      rw [len0] at h2
      refine ⟨elEq_iff.1 h1, boundK_ok h2 fun m hm => boundK_ok hm fun l hl => ?_⟩
      rw [fN_eq, cutK_eq] at hl
      exact ex hl
    case own el' l m o n =>
      obtain ⟨h1, h2⟩ := bK_iff.1 (show bK (elEq el' el) (vecK el l m s fun _ _ => bK (Nat.ble (Nat.add o n) m) (boundK (hi.map (AX.ev (t.get .undef))) n n fun h => boundK (lo.map (AX.ev (t.get .undef))) 0 h fun k => fN (Nat.add o k) fun o' => fN (Nat.sub h k) fun n' => K (.own el l m o' n') s)) = true from h)
      obtain ⟨T, t', ho, h3⟩ := vecK_ok h2
      rw [bK_iff, nble, decide_eq_true_eq] at h3
      simp only [ho]
      refine ⟨elEq_iff.1 h1, trivial, by rw [lst_length], h3.1, boundK_ok h3.2 fun m hm => boundK_ok hm fun l hl => ?_⟩
      rw [fN_eq, fN_eq] at hl
      exact ex hl
  case faddr off x =>
    replace h : (evK x t fun a => faddrP a off fun v => K v s) = true := h
    rw [evK_eq] at h
    simp only [AOp.run]
    rcases faddrP_ok h with ⟨l, o, hx, h1⟩ | ⟨el, y, o, hx, h1⟩ | ⟨el, l, m, i, o, hx, h1⟩ <;> (rw [hx]; exact ex h1)
  case field ag off n x =>
    replace h : (evK x t fun a => onAgg a fun cs => bK (lenK cs 0 (Nat.ble (Nat.add off n))) (iK ag (cutK cs off n fun ds => K (.agg ds) s) (bK (Nat.beq n 1) (nthK .undef cs off fun v => K v s)))) = true := h
    rw [evK_eq] at h
    obtain ⟨cs, hx, h1⟩ := onAgg_ok h
    rw [bK_iff, len0, nble, decide_eq_true_eq, iK_eq] at h1
    simp only [AOp.run, hx]
    refine ⟨h1.1, ?_⟩
    cases ag with
    | true => have h2 := h1.2; rw [if_pos rfl, cutK_eq] at h2; exact ⟨fun h => (by cases h), ex h2⟩
    | false => have h2 := h1.2; rw [if_neg (by simp), bK_iff, nbeq, nthK_eq] at h2; exact ⟨fun _ => h2.1, ex h2.2⟩
  case iaddr el arr x i =>
    replace h : (evK i t fun j => onInt j fun _ z => natI z fun k => evK x t fun a =>
      @Option.rec Nat (fun _ => Bool) (iaddrL a k s el fun v => K v s) (fun n => bK (Nat.ble (Nat.succ k) n) (faddrP a (Nat.mul k (elSz el)) fun v => K v s)) arr) = true := h
    rw [evK_eq] at h
    obtain ⟨kk, z, hi, h1⟩ := onInt_ok h
    obtain ⟨h2, h3⟩ := natI_ok h1
    rw [evK_eq] at h3
    simp only [AOp.run, hi]
    have hsz : elSz el = el.sz := rfl
    cases arr with
    | none =>
      replace h3 : (iaddrL (x.ev (t.get .undef)) z.toNat s el fun v => K v s) = true := h3
      generalize x.ev (t.get .undef) = v at h3 ⊢
      cases v <;> first | exact no h3 rfl | skip
      case lst f el' xs =>
        obtain ⟨e1, h4⟩ := bK_iff.1 (show bK (elEq el' el) (bK (lenK xs 0 (Nat.ble (Nat.succ z.toNat))) (nthK .undef xs z.toNat fun y => K (.eref el y 0) s)) = true from h3)
        rw [bK_iff, len0, nble, decide_eq_true_eq, nthK_eq] at h4
        exact ⟨elEq_iff.1 e1, h2, by have := h4.1; omega, ex h4.2⟩
      case own el' l m o n =>
        obtain ⟨e1, h4⟩ := bK_iff.1 (show bK (elEq el' el) (bK (Nat.ble (Nat.succ z.toNat) n) (vecK el l m s fun _ _ => fN (Nat.add o z.toNat) fun i => K (.vref el l m i 0) s)) = true from h3)
        rw [bK_iff, nble, decide_eq_true_eq] at h4
        obtain ⟨T, t', ho, h5⟩ := vecK_ok h4.2
        rw [fN_eq] at h5
        simp only [ho]
        exact ⟨elEq_iff.1 e1, h2, by have := h4.1; omega, trivial, by rw [lst_length], ex h5⟩
    | some n =>
      obtain ⟨h4, h5⟩ := bK_iff.1 (show bK (Nat.ble (Nat.succ z.toNat) n) (faddrP (x.ev (t.get .undef)) (Nat.mul z.toNat (elSz el)) fun v => K v s) = true from h3)
      rw [nble, decide_eq_true_eq] at h4
      rcases faddrP_ok h5 with ⟨l, o, hx, h6⟩ | ⟨el', y, o, hx, h6⟩ | ⟨el', l, m, j, o, hx, h6⟩ <;> (rw [hx]; exact ⟨h2, by omega, ex h6⟩)
  case idxS x i =>
    replace h : (evK i t fun j => onInt j fun _ z => natI z fun k => evK x t fun a => onStr a fun b => dropK b k fun c => @List.rec UInt8 (fun _ => Bool) false (fun d _ _ => fN d.toNat fun n => K (.int .u8 (Int.ofNat n)) s) c) = true := h
    rw [evK_eq] at h
    obtain ⟨kk, z, hi, h1⟩ := onInt_ok h
    obtain ⟨h2, h3⟩ := natI_ok h1
    rw [evK_eq] at h3
    obtain ⟨b, hx, h4⟩ := onStr_ok h3
    rw [dropK_eq] at h4
    simp only [AOp.run, hi, hx]
    cases hd : b.drop z.toNat with
    | nil => rw [hd] at h4; exact no h4 rfl
    | cons d l =>
      rw [hd] at h4
      replace h4 : (fN d.toNat fun n => K (.int .u8 (Int.ofNat n)) s) = true := h4
      rw [fN_eq] at h4
      have hlt : z.toNat < b.length := by
        rcases Nat.lt_or_ge z.toNat b.length with h | h
        · exact h
        · rw [List.drop_eq_nil_of_le h] at hd; cases hd
      have hg : b.getD z.toNat 0 = d := by
        rw [List.getD_eq_getElem?_getD, List.getElem?_eq_getElem hlt]
        have := List.drop_eq_getElem_cons hlt
        rw [hd] at this
        injection this with e1 e2
        exact e1.symm
      exact ⟨h2, by omega, by rw [hg]; exact ex h4⟩
  case idxA el ln x i =>
    cases el with | mk g z0 =>
    replace h : (evK i t fun j => onInt j fun _ z => natI z fun k => evK x t fun a => onAgg a fun cs => bK (Nat.ble (Nat.succ k) ln)
      (fN (Nat.mul k z0) fun off => bK (lenK cs 0 (Nat.ble (Nat.add off z0))) (iK g (cutK cs off z0 fun ds => K (.agg ds) s) (bK (Nat.beq z0 1) (nthK .undef cs off fun v => K v s))))) = true := h
    rw [evK_eq] at h
    obtain ⟨kk, z, hi, h1⟩ := onInt_ok h
    obtain ⟨h2, h3⟩ := natI_ok h1
    rw [evK_eq] at h3
    obtain ⟨cs, hx, h4⟩ := onAgg_ok h3
    rw [bK_iff, nble, decide_eq_true_eq, fN_eq, bK_iff, len0, nble, decide_eq_true_eq, iK_eq] at h4
    obtain ⟨h5, h6, h7⟩ := h4
    simp only [AOp.run, hi, hx]
    refine ⟨h2, by omega, h6, ?_⟩
    cases g with
    | true => rw [if_pos rfl, cutK_eq] at h7; exact ⟨fun h => (by cases h), ex h7⟩
    | false => rw [if_neg (by simp), bK_iff, nbeq, nthK_eq] at h7; exact ⟨fun _ => h7.1, ex h7.2⟩
  case ext x i =>
    replace h : (evK x t fun a => onTup a fun vs => bK (lenK vs 0 (Nat.ble (Nat.succ i))) (nthK .undef vs i fun v => K v s)) = true := h
    rw [evK_eq] at h
    obtain ⟨vs, hx, h1⟩ := onTup_ok h
    rw [bK_iff, len0, nble, decide_eq_true_eq, nthK_eq] at h1
    simp only [AOp.run, hx]
    exact ⟨h1.1, ex h1.2⟩
  case call q f args =>
    cases q with
    | false => exact absurd rfl hcl
    | true =>
      replace h : (evK f t fun g => isYld g (fun l => false) <| onFn g fun fn a b => onFunc fn fun n => evsK args t fun az => appendK az b fun zs => appendK a zs fun ys => callD c n ys s K) = true := h
      rw [evK_eq] at h
      rcases isYld_ok h with ⟨l, _, h1⟩ | h
      · exact no h1 rfl
      obtain ⟨fn, a, b, hx, h1⟩ := onFn_ok h
      obtain ⟨n, rfl, h2⟩ := onFunc_ok h1
      rw [evsK_eq, appendK_eq, appendK_eq] at h2
      simp only [AOp.run, hx]
      rw [List.append_assoc]
      exact callD_ok hc h2 fun v s' hv => ex hv
  case meth f args =>
    replace h : (evK f t fun g => onFn g fun fn a b => onFunc fn fun n => bK (isNilL a) (bK (isNilL b) (evsK args t fun az => @List.rec AV (fun _ => Bool) false (fun x r _ => methK c n x r s K) az))) = true := h
    rw [evK_eq] at h
    obtain ⟨fn, a, b, hx, h1⟩ := onFn_ok h
    obtain ⟨n, rfl, h2⟩ := onFunc_ok h1
    rw [bK_iff, bK_iff, isNilL_iff, isNilL_iff, evsK_eq] at h2
    obtain ⟨rfl, rfl, h3⟩ := h2
    simp only [AOp.run, hx]
    generalize args.map (AX.ev (t.get .undef)) = az at h3 ⊢
    cases az with
    | nil => exact no h3 rfl
    | cons x r => exact methK_ok hc h3
  case len q x =>
    replace h : (evK x t fun a => iK q (onStr a fun b => lenK b 0 fun n => K (.int .i64 (Int.ofNat n)) s) (lenP a fun n => K (.int .i64 (Int.ofNat n)) s)) = true := h
    rw [evK_eq, iK_eq] at h
    simp only [AOp.run]
    generalize x.ev (t.get .undef) = v at h ⊢
    cases q with
    | true =>
      rw [if_pos rfl] at h
      obtain ⟨b, rfl, h1⟩ := onStr_ok h
      rw [len0] at h1
      exact ex h1
    | false =>
      rw [if_neg (by simp)] at h
      cases v <;> first | exact no h rfl | skip
      case nils => exact ex h
      case lst f el xs => replace h : (lenK xs 0 fun n => K (.int .i64 (Int.ofNat n)) s) = true := h; rw [len0] at h; exact ex h
      case own el l m lo n => exact ex h
  case app T el x y =>
    replace h : (evK x t fun a => evK y t fun b => appK s T el a b K) = true := h
    rw [evK_eq, evK_eq] at h
    exact appK_ok h fun v s' hv => ex hv
  case usd el x =>
    replace h : (evK x t fun a => usdP a s el fun v => K v s) = true := h
    rw [evK_eq] at h
    simp only [AOp.run]
    generalize x.ev (t.get .undef) = v at h ⊢
    cases v <;> first | exact no h rfl | skip
    case nils => exact ex h
    case own el' l m lo n =>
      obtain ⟨h1, h2⟩ := bK_iff.1 (show bK (elEq el' el) (vecK el l m s fun _ _ => bK (Nat.ble 1 n) (K (.vref el l m lo 0) s)) = true from h)
      obtain ⟨T, t', ho, h3⟩ := vecK_ok h2
      rw [bK_iff, nble, decide_eq_true_eq] at h3
      simp only [ho]
      exact ⟨elEq_iff.1 h1, trivial, by rw [lst_length], h3.1, ex h3.2⟩
  case min x xs =>
    replace h : (evK x t fun a => evsK xs t fun ys => minsK true a ys fun v => K v s) = true := h
    rw [evK_eq, evsK_eq] at h
    exact minsK_ok (K' := fun v => Ex K v s.abs) (fun v hv => ex hv) _ _ h
  case max x xs =>
    replace h : (evK x t fun a => evsK xs t fun ys => minsK false a ys fun v => K v s) = true := h
    rw [evK_eq, evsK_eq] at h
    exact minsK_ok (K' := fun v => Ex K v s.abs) (fun v hv => ex hv) _ _ h
  case mkslice el zero n cc =>
    replace h : (evK n t fun a => onInt a fun k z => bK (kEq k .i64) (natI z fun i => evK cc t fun b => onInt b fun k' z' => bK (kEq k' .i64) (natI z' fun j => bK (Nat.ble i j) (bK (roomB j el) (bK (fitsB zero el) (repK zero i fun xs => ofK .undef xs 0 .nil fun _ t' => s.pushK (.vec none el i t') fun l s' => K (.own el l i 0 i) s')))))) = true := h
    rw [evK_eq] at h
    obtain ⟨k, z, hx, h1⟩ := onInt_ok h
    obtain ⟨e1, h2⟩ := bK_iff.1 h1
    obtain ⟨e2, h3⟩ := natI_ok h2
    rw [evK_eq] at h3
    obtain ⟨k', z', hy, h4⟩ := onInt_ok h3
    obtain ⟨e3, h5⟩ := bK_iff.1 h4
    obtain ⟨e4, h6⟩ := natI_ok h5
    rw [bK_iff, bK_iff, bK_iff, nble, decide_eq_true_eq, fitsB_eq, repK_eq] at h6
    obtain ⟨e5, e6, e7, h7⟩ := h6
    rw [kEq_iff] at e1 e3
    subst e1; subst e3
    obtain ⟨t', h8, h9⟩ := ofK_nil _ h7
    obtain ⟨s', h10, h11⟩ := St.pushK_ok h8
    have hr := roomB_ok e6
    simp only [AOp.run, hx, hy]
    simp only [OB.abs] at h10
    rw [List.length_replicate] at h9
    rw [h9] at h10
    refine ⟨e7, e2, by omega, ?_, s', h10.symm, h11⟩
    have hr : z'.toNat * (el.sz + 1) ≤ 2 ^ 40 := hr
    obtain ⟨m, rfl⟩ := Int.eq_ofNat_of_zero_le e4
    simp only [Int.toNat_natCast] at hr
    exact_mod_cast hr
  case mkvec el =>
    obtain ⟨s', h3, h4⟩ := St.pushK_ok (show (s.pushK (.vec none el 0 .nil) fun l s' => K (.own el l 0 0 0) s') = true from h)
    exact ⟨s', by rw [h3]; rfl, h4⟩
  case allocAt k T cs =>
    obtain ⟨n, h1, h2, h3⟩ := heldK_ok (show (heldK k t s fun n => ofK .undef cs 0 .nil fun m t' => s.setK n (.cells T m t') fun s' => K (.ref n 0) s') = true from h)
    obtain ⟨t', h4, h5⟩ := ofK_nil _ h3
    obtain ⟨s', h6, h7⟩ := St.setK_ok h4
    simp only [AOp.run, h1, h2]
    exact ⟨s', by rw [h6]; simp only [OB.abs, h5], h7⟩
  case mksAt q el zero n cc =>
    obtain ⟨l, q1, q2, h⟩ := heldK_ok (show (heldK q t s fun l => evK n t fun a => onInt a fun k z => bK (kEq k .i64) (natI z fun i => evK cc t fun b => onInt b fun k' z' => bK (kEq k' .i64) (natI z' fun j => bK (Nat.ble 1 i) (bK (Nat.ble i j) (bK (roomB j el) (bK (fitsB zero el) (repK zero i fun xs => ofK .undef xs 0 .nil fun _ t' => s.setK l (.vec none el i t') fun s' => K (.own el l i 0 i) s'))))))) = true from h)
    rw [evK_eq] at h
    obtain ⟨k, z, hx, h1⟩ := onInt_ok h
    obtain ⟨e1, h2⟩ := bK_iff.1 h1
    obtain ⟨e2, h3⟩ := natI_ok h2
    rw [evK_eq] at h3
    obtain ⟨k', z', hy, h4⟩ := onInt_ok h3
    obtain ⟨e3, h5⟩ := bK_iff.1 h4
    obtain ⟨e4, h6⟩ := natI_ok h5
    rw [bK_iff, bK_iff, bK_iff, bK_iff, nble, nble, decide_eq_true_eq, decide_eq_true_eq, fitsB_eq, repK_eq] at h6
    obtain ⟨e0, e5, e6, e7, h7⟩ := h6
    rw [kEq_iff] at e1 e3
    subst e1; subst e3
    obtain ⟨t', h8, h9⟩ := ofK_nil _ h7
    obtain ⟨s', h10, h11⟩ := St.setK_ok h8
    have hr := roomB_ok e6
    simp only [AOp.run, q1, q2, hx, hy]
    refine ⟨e7, by omega, by omega, ?_, s', ?_, h11⟩
    · have hr : z'.toNat * (el.sz + 1) ≤ 2 ^ 40 := hr
      obtain ⟨m, rfl⟩ := Int.eq_ofNat_of_zero_le e4
      simp only [Int.toNat_natCast] at hr
      exact_mod_cast hr
    · rw [List.length_replicate] at h9
      rw [h10]; simp only [OB.abs, h9]
  case appAt k T el x y =>
    obtain ⟨n, h1, h2, h3⟩ := heldK_ok (show (heldK k t s fun n => evK x t fun a => evK y t fun b => noneP a el (pureP b el fun ys => bK (allB (fun a => fitsB a el) ys) (ofK .undef ys 0 .nil fun m t' => bK (roomB m el) (s.setK n (.vec T el m t') fun s' => K (.own el n m 0 m) s')))) = true from h)
    rw [evK_eq, evK_eq] at h3
    have e1 : noneL el (x.ev (t.get .undef)) = true ∧ (pureP (y.ev (t.get .undef)) el fun ys => bK (allB (fun a => fitsB a el) ys) (ofK .undef ys 0 .nil fun m t' => bK (roomB m el) (s.setK n (.vec T el m t') fun s' => K (.own el n m 0 m) s'))) = true := by
      generalize x.ev (t.get .undef) = v at h3 ⊢
      cases v <;> first | exact no h3 rfl | skip
      case nils => exact ⟨rfl, h3⟩
      case lst f el' xs =>
        obtain ⟨a1, b1⟩ := bK_iff.1 (show bK f (bK (elEq el' el) (bK (isNilL xs) _)) = true from h3)
        obtain ⟨a2, b2⟩ := bK_iff.1 b1
        obtain ⟨a3, b3⟩ := bK_iff.1 b2
        rw [elEq_iff] at a2; rw [isNilL_iff] at a3
        subst a1; subst a2; subst a3
        exact ⟨by simp [noneL], b3⟩
    have e2 : ∃ ys, pureL el (y.ev (t.get .undef)) = some ys ∧ bK (allB (fun a => fitsB a el) ys) (ofK .undef ys 0 .nil fun m t' => bK (roomB m el) (s.setK n (.vec T el m t') fun s' => K (.own el n m 0 m) s')) = true := by
      have h4 := e1.2
      generalize y.ev (t.get .undef) = v at h4 ⊢
      cases v <;> first | exact no h4 rfl | skip
      case nils => exact ⟨[], rfl, h4⟩
      case lst f el' xs =>
        obtain ⟨a1, b1⟩ := bK_iff.1 (show bK (elEq el' el) _ = true from h4)
        rw [elEq_iff] at a1
        subst a1
        exact ⟨xs, by simp [pureL], b1⟩
    obtain ⟨ys, e3, e4⟩ := e2
    rw [bK_iff, allB_eq] at e4
    obtain ⟨t', h5, h6⟩ := ofK_nil _ e4.2
    rw [bK_iff] at h5
    obtain ⟨s', h7, h8⟩ := St.setK_ok h5.2
    simp only [AOp.run, h1, h2, e3]
    refine ⟨e1.1, by rw [← e4.1]; congr 1; funext a; exact (fitsB_eq a el).symm, roomB_ok h5.1, s', ?_, h8⟩
    rw [h7]; simp only [OB.abs, h6]
  case eqnil neg k x y =>
    replace h : (evK x t fun a => evK y t fun b => nilEqK k a b fun r => tB (negB neg r) fun v => K v s) = true := h
    rw [evK_eq, evK_eq] at h
    obtain ⟨r, h1, h2⟩ := nilEqK_ok h
    rw [tB_eq, negB_eq] at h2
    simp only [AOp.run, h1]
    exact ex h2
  all_goals exact absurd rfl hcl
theorem opK_ex {o : AOp} {H : Prop} {c : Ctx} (hc : CtxOk H c) {t : Tr AV} {s : St} {K Kp : KT} (h : AOp.K o c t s K Kp = true) : ∃ out s', outK K Kp out s' = true ∧ (H → o.run c.P (t.get .undef) s.abs (fun v σ' => out = .ret v ∧ σ' = s'.abs) (fun v σ' => out = .panic v ∧ σ' = s'.abs)) := by
  have plain : (∃ out s', outK K Kp out s' = true ∧ o.run c.P (t.get .undef) s.abs (fun v σ' => out = .ret v ∧ σ' = s'.abs) (fun v σ' => out = .panic v ∧ σ' = s'.abs)) → ∃ out s', outK K Kp out s' = true ∧ (H → o.run c.P (t.get .undef) s.abs (fun v σ' => out = .ret v ∧ σ' = s'.abs) (fun v σ' => out = .panic v ∧ σ' = s'.abs)) := fun ⟨o, s', h1, h2⟩ => ⟨o, s', h1, fun _ => h2⟩
  by_cases hex : ∃ o' xs, o = .ex o' xs
  · obtain ⟨o', xs, rfl⟩ := hex
    replace h : (evsK xs t fun vs => XOp.K o' c vs s K Kp) = true := h
    rw [evsK_eq] at h
    exact plain (xopK_ex hc h)
  by_cases hcl : o.cls = .no
  · cases o <;> first | (exact absurd ⟨_, _, rfl⟩ hex) | (simp [AOp.cls] at hcl; done) | skip
    case bslice mt el z n ps => cases mt <;> (simp [AOp.cls] at hcl)
    case call q f args =>
      cases q with
      | true => exact absurd hcl (by simp [AOp.cls])
      | false =>
        replace h : (evK f t fun g => isYld g (fun l => iK false false (evsK args t fun az => gamK c.gam l fun y => y az s (outK K Kp))) <| onFn g fun fn a b => onFunc fn fun n => evsK args t fun az => appendK az b fun zs => appendK a zs fun ys => c.call n ys s (outK K Kp)) = true := h
        rw [evK_eq] at h
        rcases isYld_ok h with ⟨l, hx, h1⟩ | h
        · replace h1 : (evsK args t fun az => gamK c.gam l fun y => y az s (outK K Kp)) = true := h1
          rw [evsK_eq] at h1
          obtain ⟨y, hy, h2⟩ := gamK_ok h1
          obtain ⟨out, s', h3, h4⟩ := hc.yield _ hy _ _ _ h2
          refine ⟨out, s', h3, fun hH => ?_⟩
          simp only [AOp.run, hx]
          rw [if_neg (by simp)]
          refine (h4 hH).mono ?_
          rintro o' σ' ⟨rfl, rfl⟩
          cases o' <;> exact ⟨rfl, rfl⟩
        obtain ⟨fn, a, b, hx, h1⟩ := onFn_ok h
        obtain ⟨n, rfl, h2⟩ := onFunc_ok h1
        rw [evsK_eq, appendK_eq, appendK_eq] at h2
        obtain ⟨out, s', h3, h4⟩ := hc.call _ _ _ _ h2
        refine ⟨out, s', h3, fun hH => ?_⟩
        simp only [AOp.run, hx]
        rw [if_neg (by simp), List.append_assoc]
        refine (h4 hH).mono ?_
        rintro o' σ' ⟨rfl, rfl⟩
        cases o' <;> exact ⟨rfl, rfl⟩
    all_goals refine plain ?_
    case ustr T x n =>
      replace h : (evK x t fun a => evK n t fun b => onInt b fun k z => bK (kEq .i64 k) (ustrP a T z s K)) = true := h
      rw [evK_eq, evK_eq] at h
      obtain ⟨k, z, hn, h1⟩ := onInt_ok h
      rw [bK_iff, kEq_iff] at h1
      obtain ⟨rfl, h1⟩ := h1
      generalize hx : x.ev (t.get .undef) = v at h1
      cases v <;> first | exact no h1 rfl | skip
      case nilp =>
        obtain ⟨h2, h3⟩ := bK_iff.1 (show bK (eqI z (Int.ofNat 0)) (K (.str []) s) = true from h1)
        rw [eqI_eq, beq_iff_eq] at h2
        refine ⟨.ret (.str []), s, h3, ?_⟩
        simp only [AOp.run, hx, hn]
        exact ⟨h2, trivial, trivial⟩
      case vref el l m lo off =>
        replace h1 : ustrV T z s K el l m lo off = true := h1
        unfold ustrV at h1
        rw [bK_iff, bK_iff, bK_iff, nbeq, nbeq, elEq_iff] at h1
        obtain ⟨rfl, rfl, rfl, h2⟩ := h1
        obtain ⟨o, ho, h3⟩ := St.getK_ok h2
        obtain ⟨T', el', k, tr, rfl, h4⟩ := onVec_ok h3
        rw [bK_iff, bK_iff, bK_iff, elEq_iff, nbeq] at h4
        obtain ⟨hT, rfl, rfl, h5⟩ := h4
        obtain ⟨hz, h6⟩ := natI_ok h5
        rw [bK_iff, bK_iff, bK_iff, nble, nble, nble, decide_eq_true_eq, decide_eq_true_eq, decide_eq_true_eq, lstK_eq] at h6
        obtain ⟨q1, q2, q3, h7⟩ := h6
        obtain ⟨b, e1, h8⟩ := bytesK_ok _ _ h7
        obtain ⟨s', e2, h9⟩ := St.setK_ok h8
        refine ⟨.ret (.str b), s', h9, ?_⟩
        simp only [AOp.run, hx, hn, ho, OB.abs]
        have hT : T' = some T := by
          cases T' with
          | none => exact no hT rfl
          | some a => rw [nbeq.1 (show Nat.beq a T = true from hT)]
        refine ⟨trivial, trivial, rfl, hT, by rw [lst_length], by omega, by rw [lst_length]; omega, by rw [lst_length]; omega, b, ?_, rfl, by rw [e2]; rfl⟩
        rw [← e1]
        have := lst_cut (d := AV.undef) (lo := 0) (k := z.toNat) (n := m) (t := tr) (by omega)
        rw [List.drop_zero] at this
        exact this
    case p2u x =>
      replace h : (evK x t fun a => onRef a fun l off => s.getK l fun o => onCells o fun _ n _ => bK (Nat.ble (Nat.succ off) n) (K (.ref l off) s)) = true := h
      rw [evK_eq] at h
      obtain ⟨l, off, hx, h1⟩ := onRef_ok h
      obtain ⟨o, ho, h2⟩ := St.getK_ok h1
      obtain ⟨T, n, t', rfl, h3⟩ := onCells_ok h2
      rw [bK_iff, nble, decide_eq_true_eq] at h3
      refine ⟨.ret (.ref l off), s, h3.2, ?_⟩
      simp only [AOp.run, hx, ho, OB.abs]
      exact ⟨by rw [lst_length]; exact h3.1, trivial, trivial⟩
    case u2p u x =>
      replace h : (evK x t fun a => u2pP a s c.P u fun v => K v s) = true := h
      rw [evK_eq] at h
      generalize hx : x.ev (t.get .undef) = v at h
      cases v <;> first | exact no h rfl | skip
      case ref l off =>
        obtain ⟨o, ho, h2⟩ := St.getK_ok (show (s.getK l fun o => onCells o fun T n _ => @Option.rec TypeId (fun _ => Bool) false (fun T => bK (liesAt c.P c.P.depth T (n / c.P.cellsOf T) off u 1) (K (.ref l off) s)) T) = true from h)
        obtain ⟨T, n, t', rfl, h3⟩ := onCells_ok h2
        cases T with
        | none => exact no h3 rfl
        | some T =>
          replace h3 : bK (liesAt c.P c.P.depth T (n / c.P.cellsOf T) off u 1) (K (.ref l off) s) = true := h3
          rw [bK_iff] at h3
          refine ⟨.ret (.ref l off), s, h3.2, ?_⟩
          simp only [AOp.run, hx, ho, OB.abs, lst_length]
          exact ⟨h3.1, trivial, trivial⟩
    case eqp neg x y =>
      replace h : (evK x t fun a => evK y t fun b => onRef a fun l o => onRef b fun l' o' => bK (Nat.beq l l') (bK (Nat.beq o o') (s.getK l fun ob => onCells ob fun _ _ _ => tB (notK neg) fun v => K v s))) = true := h
      rw [evK_eq, evK_eq] at h
      obtain ⟨l, o, hx, h1⟩ := onRef_ok h
      obtain ⟨l', o', hy, h2⟩ := onRef_ok h1
      rw [bK_iff, bK_iff, nbeq, nbeq] at h2
      obtain ⟨e1, e2, h3⟩ := h2
      obtain ⟨ob, ho, h4⟩ := St.getK_ok h3
      obtain ⟨T, n, t', rfl, h5⟩ := onCells_ok h4
      rw [tB_eq, notK_eq] at h5
      refine ⟨.ret (.bool neg.not), s, h5, ?_⟩
      simp only [AOp.run, hx, hy, ho, OB.abs]
      exact ⟨e1, e2, trivial, trivial⟩
    case noesc f x =>
      replace h : bK (c.ne f) (evK x t fun v => K v s) = true := h
      rw [bK_iff, evK_eq] at h
      exact ⟨.ret _, s, h.2, hc.ne _ h.1, rfl, rfl⟩
    case panic x =>
      replace h : (evK x t fun a => onIfc a fun T v => Kp (.ifc T v) s) = true := h
      rw [evK_eq] at h
      obtain ⟨T, v, hx, h1⟩ := onIfc_ok h
      refine ⟨.panic (.ifc T v), s, h1, ?_⟩
      simp only [AOp.run, hx]
      exact ⟨trivial, trivial⟩
    case hold =>
      obtain ⟨s', h1, h2⟩ := St.pushK_ok (show (s.pushK .resv fun l s' => K (.ref l 0) s') = true from h)
      exact ⟨.ret (.ref s.abs.length 0), s', h2, rfl, h1.symm⟩
    case rngS x =>
      replace h : (evK x t fun a => onStr a fun b => s.pushK (.siter b 0) fun l s' => K (.ref l 0) s') = true := h
      rw [evK_eq] at h
      obtain ⟨b, hx, h1⟩ := onStr_ok h
      obtain ⟨s', h2, h3⟩ := St.pushK_ok h1
      refine ⟨.ret (.ref s.abs.length 0), s', h3, ?_⟩
      simp only [AOp.run, hx]
      exact ⟨trivial, h2.symm⟩
    case nxtS x =>
      replace h : (evK x t fun a => onRef a fun l z => bK (Nat.beq z 0) (s.getK l fun o => onIter o fun b p => iK (lenK b 0 (Nat.ble (Nat.succ p)))
        (fI (Utf8.decode ⟨b.toArray⟩ p).1 fun r => fN (Nat.add p (Utf8.decode ⟨b.toArray⟩ p).2) fun q => s.setK l (.siter b q) fun s' => K (.tup [.bool true, .int .i64 (Int.ofNat p), .int .i32 r]) s')
        (K (.tup [.bool false]) s))) = true := h
      rw [evK_eq] at h
      obtain ⟨l, z, hx, h1⟩ := onRef_ok h
      rw [bK_iff, nbeq] at h1
      obtain ⟨rfl, h2⟩ := h1
      obtain ⟨ob, ho, h3⟩ := St.getK_ok h2
      obtain ⟨b, p, rfl, h4⟩ := onIter_ok h3
      rw [len0, nble, iK_eq] at h4
      by_cases hp : p < b.length
      · rw [if_pos (decide_eq_true (show p.succ ≤ b.length from hp)), fI_eq, fN_eq] at h4
        obtain ⟨s', h5, h6⟩ := St.setK_ok h4
        refine ⟨.ret _, s', h6, ?_⟩
        simp only [AOp.run, hx, ho, OB.abs, if_pos hp]
        exact ⟨rfl, h5.symm⟩
      · rw [if_neg (fun h => hp (show p.succ ≤ b.length from of_decide_eq_true h))] at h4
        refine ⟨.ret _, s, h4, ?_⟩
        simp only [AOp.run, hx, ho, OB.abs, if_neg hp]
        exact ⟨trivial, trivial⟩
  · obtain ⟨v, σ', hD, s', rfl, hk⟩ := (run_iff hcl).1 (opK_run hc hcl h)
    exact plain ⟨.ret v, s', hk, (run_iff hcl).2 ⟨v, s'.abs, hD, rfl, rfl⟩⟩
end Go.AM.B
