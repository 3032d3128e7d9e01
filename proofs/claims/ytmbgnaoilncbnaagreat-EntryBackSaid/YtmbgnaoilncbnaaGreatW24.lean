/- Part of a proof: see Root. -/
import Derived.Test.YtmbgnaoilncbnaaGreatW23
set_option linter.unnecessarySimpa false
set_option linter.unusedSimpArgs false
set_option linter.unusedVariables false
namespace Go.AM.B
def NeOk (P : Program) (ne : FuncId → Bool) : Prop := ∀ f, ne f = true → ∃ fn, P.funcs[f]? = some fn ∧ (fn.name == "runtime.NumGoroutine") = false ∧ fn.body.isNone = true ∧ Extern.findNext fn = none ∧ Extern.find fn = some Extern.AbiNoEscape.same
structure CtxOk (c : Ctx) : Prop where
  ne : NeOk c.P c.ne
  call : ∀ n args s K, c.call n args s K = true → ∃ o s', K o s' = true ∧ CallA c.P n args s.abs fun o' σ' => o' = o ∧ σ' = s'.abs
theorem notStr_ok {x : AV} {X : Bool} (h : notStr x X = true) : (match (generalizing := false) x with | .str _ => False | _ => True) ∧ X = true := by
  cases x <;> first | exact no h rfl | exact ⟨trivial, h⟩
theorem faddrP_ok {x : AV} {off : Nat} {K : AV → Bool} (h : faddrP x off K = true) : (∃ l o, x = .ref l o ∧ K (.ref l (o + off)) = true) ∨ (∃ el y o, x = .eref el y o ∧ K (.eref el y (o + off)) = true) ∨ (∃ el l m i o, x = .vref el l m i o ∧ K (.vref el l m i (o + off)) = true) := by
  cases x <;> first | exact no h rfl | skip
  case ref l o => exact .inl ⟨l, o, rfl, by rw [← fN_eq (o + off) fun o' => K (.ref l o')]; exact h⟩
  case eref el y o => exact .inr (.inl ⟨el, y, o, rfl, by rw [← fN_eq (o + off) fun o' => K (.eref el y o')]; exact h⟩)
  case vref el l m i o => exact .inr (.inr ⟨el, l, m, i, o, rfl, by rw [← fN_eq (o + off) fun o' => K (.vref el l m i o')]; exact h⟩)
theorem minsK_ok {op : Bool} {K : AV → Bool} {K' : AV → Prop} (hK : ∀ v, K v = true → K' v) : ∀ (ys : List AV) (x : AV), minsK op x ys K = true → minsA op x ys K'
  | [], x, h => by
    obtain ⟨k, a, rfl, h1⟩ := onInt_ok (show (onInt x fun k a => K (.int k a)) = true from h)
    exact hK _ h1
  | y :: ys, x, h => by
    obtain ⟨k, a, rfl, h1⟩ := onInt_ok (show (onInt x fun k a => onInt y fun _ b => iK (minP op a b) (minsK op (.int k b) ys K) (minsK op (.int k a) ys K)) = true from h)
    obtain ⟨k', b, rfl, h2⟩ := onInt_ok h1
    rw [iK_eq] at h2
    have e : minP op a b = (if op then decide (b < a) else decide (a < b)) := by unfold minP; rw [iK_eq, ltI_eq, ltI_eq]
    rw [e] at h2
    show minsA op (.int k (if op then (if b < a then b else a) else (if b > a then b else a))) ys K'
    refine minsK_ok hK ys _ ?_
    cases op with
    | true =>
      by_cases hb : b < a
      · simp only [hb, if_true, decide_true] at h2 ⊢; exact h2
      · simp only [hb, if_true, if_false, decide_false, Bool.false_eq_true] at h2 ⊢; exact h2
    | false =>
      by_cases hb : a < b
      · simp only [hb, gt_iff_lt, if_true, decide_true, Bool.false_eq_true, if_false] at h2 ⊢; exact h2
      · simp only [hb, gt_iff_lt, if_true, if_false, decide_false, Bool.false_eq_true] at h2 ⊢; exact h2
theorem heldK_ok {k : Nat} {t : Tr AV} {s : St} {K : Nat → Bool} (h : heldK k t s K = true) : ∃ n, t.get .undef k = .ref n 0 ∧ s.abs[n]? = some .resv ∧ K n = true := by
  replace h : (Tr.getK .undef t k fun v => onRef v fun n z => bK (Nat.beq z 0) (s.getK n fun o => onResv o (K n))) = true := h
  rw [Tr.getK_eq] at h
  obtain ⟨n, z, hv, h1⟩ := onRef_ok h
  rw [bK_iff, nbeq] at h1
  obtain ⟨rfl, h2⟩ := h1
  obtain ⟨o, ho, h3⟩ := St.getK_ok h2
  obtain ⟨rfl, h4⟩ := onResv_ok h3
  exact ⟨n, hv, ho, h4⟩
theorem callD_ok {c : Ctx} (hc : CtxOk c) {n : FuncId} {az : List AV} {s : St} {K : KT} {K' : AV → Store → Prop} (h : callD c n az s K = true) (hK : ∀ v s', K v s' = true → K' v s'.abs) : ∃ r, (∀ τ, CallQ c.P n az (s.abs ++ τ) r) ∧ K' r s.abs := by
  unfold callD at h
  rw [iK_eq] at h
  have ret : ∀ {o : Out} {K : AV → Bool}, onRet o K = true → ∃ v, o = .ret v ∧ K v = true := fun {o K} h => by cases o with | ret v => exact ⟨v, rfl, h⟩ | panic v => exact no h rfl
  split at h
  · rename_i hp
    rw [purL_eq] at hp
    obtain ⟨o, s', h1, h2⟩ := hc.call _ _ _ _ h
    obtain ⟨r0, rfl, h3⟩ := ret h1
    obtain ⟨r, h4, h5⟩ := frzK_ok _ _ _ _ h3
    have hF : CallF c.P n az r := CallF.of_nil (h2.mono fun o s ⟨h1, h2⟩ => by subst h1; subst h2; exact ⟨_, rfl, h4⟩) hp
    exact ⟨r, fun τ => hF _, hK _ _ h5⟩
  · obtain ⟨bz, e1, e2, e3⟩ := mapK_ok (R := fun a b => View s.abs a b) (frzK_ok s 30) az _ h
    have hv : ViewL s.abs az bz := ⟨e1, fun i hi => by
      have hi' : i < bz.length := by omega
      have := e2 (az[i], bz[i]) (by rw [List.mem_iff_getElem]; exact ⟨i, by simp; omega, by simp⟩)
      simpa [List.getD_eq_getElem?_getD, hi, hi'] using this⟩
    rw [bK_iff, purL_eq] at e3
    obtain ⟨hp, e3⟩ := e3
    obtain ⟨o, s', h1, h2⟩ := hc.call _ _ _ _ e3
    obtain ⟨r0, rfl, h3⟩ := ret h1
    obtain ⟨r, h4, h5⟩ := frzK_ok _ _ _ _ h3
    rw [bK_iff, flatB_eq] at h5
    have hF : CallF c.P n bz r := CallF.of_nil (h2.mono fun o s ⟨h1, h2⟩ => by subst h1; subst h2; exact ⟨_, rfl, h4⟩) hp
    exact ⟨r, fun τ => CallF.view hF ⟨hv.1, fun i hi => (hv.2 i hi).mono (fun l o hl => by
      rw [List.getElem?_append_left (List.getElem?_eq_some_iff.1 hl).1]; exact hl)⟩ h5.1, hK _ _ h5.2⟩
def Ex (K : KT) (v : AV) (σ' : Store) : Prop := ∃ s' : St, σ' = s'.abs ∧ K v s' = true
theorem ex {K : KT} {v : AV} {s' : St} (h : K v s' = true) : Ex K v s'.abs := ⟨s', rfl, h⟩
theorem opK_run {o : AOp} {c : Ctx} (hc : CtxOk c) {t : Tr AV} {s : St} {K Kp : KT} (hcl : o.cls ≠ .no) (h : AOp.K o c t s K Kp = true) : o.run c.P (t.get .undef) s.abs (Ex K) No := by
  cases o
  case mv x => replace h : (evK x t fun v => K v s) = true := h; rw [evK_eq] at h; exact ex h
  case pick cc a b =>
    replace h : (evK cc t fun v => onBool v fun y => iK y (evK a t fun v => K v s) (evK b t fun v => K v s)) = true := h
    rw [evK_eq] at h
    obtain ⟨y, hy, h1⟩ := onBool_ok h
    rw [iK_eq, evK_eq, evK_eq] at h1
    simp only [AOp.run, hy]
    cases y <;> exact ex h1
  case alloc T cs =>
    obtain ⟨t', h1, h2⟩ := ofK_nil _ (show (ofK .undef cs 0 .nil fun n t' => s.pushK (.cells T n t') fun l s' => K (.ref l 0) s') = true from h)
    obtain ⟨s', h3, h4⟩ := St.pushK_ok h1
    simp only [AOp.run]
    exact ⟨s', by rw [h3]; simp only [OB.abs, h2], h4⟩
  case box x =>
    replace h : (evK x t fun v => cellsK v fun cs => bK (allB scalB cs) (ofK .undef cs 0 .nil fun n t' => s.pushK (.cells none n t') fun l s' => K (.ref l 0) s')) = true := h
    rw [evK_eq, cellsK_eq, bK_iff, allScal] at h
    obtain ⟨t', h1, h2⟩ := ofK_nil _ h.2
    obtain ⟨s', h3, h4⟩ := St.pushK_ok h1
    exact ⟨h.1, s', by rw [h3]; simp only [OB.abs, h2], h4⟩
  case boxT T x =>
    replace h : (evK x t fun v => cellsK v fun cs => bK (allB scalB cs) (ofK .undef cs 0 .nil fun n t' => s.pushK (.cells (some T) n t') fun l s' => K (.ref l 0) s')) = true := h
    rw [evK_eq, cellsK_eq, bK_iff, allScal] at h
    obtain ⟨t', h1, h2⟩ := ofK_nil _ h.2
    obtain ⟨s', h3, h4⟩ := St.pushK_ok h1
    exact ⟨h.1, s', by rw [h3]; simp only [OB.abs, h2], h4⟩
  case build z ps => exact buildK_ok (K' := fun cs => Ex K (.agg cs) s.abs) (fun l hl => ex hl) ps z h
  case bslice mt el zero n ps =>
    replace h : (repK zero n fun z => bsliceK el ps z t fun xs => iK mt (ofK .undef xs 0 .nil fun n' t' => s.pushK (.vec none el n' t') fun l s' => K (.own el l n 0 n) s') (K (.lst true el xs) s)) = true := h
    rw [repK_eq] at h
    refine bsliceK_ok (K' := fun xs => if mt then Ex K (.own el s.abs.length n 0 n) (s.abs ++ [.vec el xs]) else Ex K (.lst true el xs) s.abs) (fun xs hx => ?_) ps _ h
    rw [iK_eq] at hx
    cases mt with
    | true =>
      rw [if_pos rfl] at hx ⊢
      obtain ⟨t', h1, h2⟩ := ofK_nil _ hx
      obtain ⟨s', h3, h4⟩ := St.pushK_ok h1
      exact ⟨s', by rw [h3]; simp only [OB.abs, h2], h4⟩
    | false => rw [if_neg (by simp)] at hx ⊢; exact ex hx
  case load ag n x =>
    replace h : (evK x t fun v => loadK v s ag n fun u => K u s) = true := h
    rw [evK_eq] at h
    exact loadK_ok (K' := fun v => Ex K v s.abs) h fun v hv => ex hv
  case store n x v =>
    replace h : (evK x t fun p => evK v t fun u => storeK s n p u fun s' => K (.tup []) s') = true := h
    rw [evK_eq, evK_eq] at h
    exact storeK_ok (K' := fun σ => Ex K (.tup []) σ) h fun s' hv => ex hv
  case nilck x =>
    replace h : (evK x t fun v => nilckP v s K) = true := h
    rw [evK_eq] at h
    simp only [AOp.run]
    generalize x.ev (t.get .undef) = v at h ⊢
    cases v
    case fn f a b => obtain ⟨n, rfl, h1⟩ := onFunc_ok (show (onFunc f fun n => K (.fn (.func n) a b) s) = true from h); exact ex h1
    all_goals first | exact no h rfl | exact ex h
  case bin op x y =>
    replace h : (evK x t fun a => evK y t fun b => binP a op b fun v => K v s) = true := h
    rw [evK_eq, evK_eq] at h
    exact binP_ok (K' := fun v => Ex K v s.abs) h fun v hv => ex hv
  case eqf neg ag ks x y =>
    replace h : (evK x t fun a => evK y t fun b => eqfK ag ks a b fun r => tB (negB neg r) fun v => K v s) = true := h
    rw [evK_eq, evK_eq] at h
    obtain ⟨r, h1, h2⟩ := eqfK_ok h
    rw [tB_eq, negB_eq] at h2
    show (match eqfE ag ks (x.ev (t.get .undef)) (y.ev (t.get .undef)) with | some b => Ex K (.bool (if neg then !b else b)) s.abs | none => False)
    rw [h1]
    exact ex h2
  case un op x =>
    replace h : (evK x t fun a => unK op a fun v => K v s) = true := h
    rw [evK_eq] at h
    exact unK_ok (K' := fun v => Ex K v s.abs) h fun v hv => ex hv
  case cint k x =>
    replace h : (evK x t fun a => onInt a fun _ n => wrapF k n fun v => K v s) = true := h
    rw [evK_eq] at h
    obtain ⟨k', n, hx, h1⟩ := onInt_ok h
    rw [wrapF_eq] at h1
    simp only [AOp.run, hx]; exact ex h1
  case cid x =>
    replace h : (evK x t fun a => onStr a fun b => K (.str b) s) = true := h
    rw [evK_eq] at h
    obtain ⟨b, hx, h1⟩ := onStr_ok h
    simp only [AOp.run, hx]; exact ex h1
  case s2b x =>
    replace h : (evK x t fun a => onStr a fun b => byteAV b fun xs => ofK .undef xs 0 .nil fun n t' => bK (Nat.ble n 1099511627776) (s.pushK (.vec none el8 n t') fun l s' => K (.own el8 l n 0 n) s')) = true := h
    rw [evK_eq] at h
    obtain ⟨b, hx, h1⟩ := onStr_ok h
    rw [byteAV_eq] at h1
    obtain ⟨t', h2, h3⟩ := ofK_nil _ h1
    rw [bK_iff, nble, decide_eq_true_eq] at h2
    obtain ⟨s', h4, h5⟩ := St.pushK_ok h2.2
    simp only [AOp.run, hx]
    rw [List.length_map] at h2 h5
    simp only [OB.abs] at h4
    rw [h3] at h4
    exact ⟨h2.1, s', h4.symm, h5⟩
  case b2s x =>
    replace h : (evK x t fun a => notStr a (listK a s el8 fun xs => bytesK xs fun b => K (.str b) s)) = true := h
    rw [evK_eq] at h
    simp only [AOp.run]
    have hh := notStr_ok h
    exact ⟨hh.1, listK_ok hh.2 fun xs hx => by obtain ⟨b, h1, h2⟩ := bytesK_ok _ _ hx; exact ⟨b, h1, ex h2⟩⟩
  case mkifc T x => replace h : (evK x t fun a => K (.ifc T a) s) = true := h; rw [evK_eq] at h; exact ex h
  case mkfn f a b => replace h : (evsK a t fun az => evsK b t fun bz => K (.fn f az bz) s) = true := h; rw [evsK_eq, evsK_eq] at h; exact ex h
  case slS x lo hi =>
    replace h : (evK x t fun a => onStr a fun b => evOK hi t fun hv => evOK lo t fun lv => lenK b 0 fun n => boundK hv n n fun h => boundK lv 0 h fun l => fN (Nat.sub h l) fun k => cutK b l k fun c => K (.str c) s) = true := h
    rw [evK_eq] at h
    obtain ⟨b, hx, h1⟩ := onStr_ok h
    rw [evOK_eq, evOK_eq, len0] at h1
    simp only [AOp.run, hx]
    refine boundK_ok h1 fun m hm => boundK_ok hm fun l hl => ?_
    rw [fN_eq, cutK_eq] at hl
    exact ex hl
  case slL el x lo hi =>
    replace h : (evK x t fun a => evOK hi t fun hv => evOK lo t fun lv => slLP a s el lv hv K) = true := h
    rw [evK_eq, evOK_eq, evOK_eq] at h
    simp only [AOp.run]
    generalize x.ev (t.get .undef) = v at h ⊢
    cases v <;> first | exact no h rfl | skip
    case nils =>
      refine boundK_ok (show (boundK (hi.map (AX.ev (t.get .undef))) 0 0 fun h => boundK (lo.map (AX.ev (t.get .undef))) 0 h fun _ => K .nils s) = true from h) fun m hm => boundK_ok hm fun l hl => ex hl
    case lst f el' xs =>
      obtain ⟨h1, h2⟩ := bK_iff.1 (show bK (elEq el' el) (lenK xs 0 fun n => boundK (hi.map (AX.ev (t.get .undef))) n n fun h => boundK (lo.map (AX.ev (t.get .undef))) 0 h fun l => fN (Nat.sub h l) fun k => cutK xs l k fun ys => K (.lst false el ys) s) = true from h)
      rw [len0] at h2
      refine ⟨elEq_iff.1 h1, boundK_ok h2 fun m hm => boundK_ok hm fun l hl => ?_⟩
      rw [fN_eq, cutK_eq] at hl
      exact ex hl
    case own el' l m o n =>
      obtain ⟨h1, h2⟩ := bK_iff.1 (show bK (elEq el' el) (vecK el l m s fun _ _ => bK (Nat.ble (Nat.add o n) m) (boundK (hi.map (AX.ev (t.get .undef))) n n fun h => boundK (lo.map (AX.ev (t.get .undef))) 0 h fun k => fN (Nat.add o k) fun o' => fN (Nat.sub h k) fun n' => K (.own el l m o' n') s)) = true from h)
      obtain ⟨T, t', ho, h3⟩ := vecK_ok h2
      rw [bK_iff, nble, decide_eq_true_eq] at h3
      simp only [ho]
      refine ⟨elEq_iff.1 h1, trivial, by rw [lst_length], h3.1, boundK_ok h3.2 fun m hm => boundK_ok hm fun l hl => ?_⟩
      rw [fN_eq, fN_eq] at hl
      exact ex hl
  case faddr off x =>
    replace h : (evK x t fun a => faddrP a off fun v => K v s) = true := h
    rw [evK_eq] at h
    simp only [AOp.run]
    rcases faddrP_ok h with ⟨l, o, hx, h1⟩ | ⟨el, y, o, hx, h1⟩ | ⟨el, l, m, i, o, hx, h1⟩ <;> (rw [hx]; exact ex h1)
  case field ag off n x =>
    replace h : (evK x t fun a => onAgg a fun cs => bK (lenK cs 0 (Nat.ble (Nat.add off n))) (iK ag (cutK cs off n fun ds => K (.agg ds) s) (bK (Nat.beq n 1) (nthK .undef cs off fun v => K v s)))) = true := h
    rw [evK_eq] at h
    obtain ⟨cs, hx, h1⟩ := onAgg_ok h
    rw [bK_iff, len0, nble, decide_eq_true_eq, iK_eq] at h1
    simp only [AOp.run, hx]
    refine ⟨h1.1, ?_⟩
    cases ag with
    | true => have h2 := h1.2; rw [if_pos rfl, cutK_eq] at h2; exact ⟨fun h => (by cases h), ex h2⟩
    | false => have h2 := h1.2; rw [if_neg (by simp), bK_iff, nbeq, nthK_eq] at h2; exact ⟨fun _ => h2.1, ex h2.2⟩
  case iaddr el arr x i =>
    replace h : (evK i t fun j => onInt j fun _ z => natI z fun k => evK x t fun a =>
      @Option.rec Nat (fun _ => Bool) (iaddrL a k s el fun v => K v s) (fun n => bK (Nat.ble (Nat.succ k) n) (faddrP a (Nat.mul k (elSz el)) fun v => K v s)) arr) = true := h
    rw [evK_eq] at h
    obtain ⟨kk, z, hi, h1⟩ := onInt_ok h
    obtain ⟨h2, h3⟩ := natI_ok h1
    rw [evK_eq] at h3
    simp only [AOp.run, hi]
    have hsz : elSz el = el.sz := rfl
    cases arr with
    | none =>
      replace h3 : (iaddrL (x.ev (t.get .undef)) z.toNat s el fun v => K v s) = true := h3
      generalize x.ev (t.get .undef) = v at h3 ⊢
      cases v <;> first | exact no h3 rfl | skip
      case lst f el' xs =>
        obtain ⟨e1, h4⟩ := bK_iff.1 (show bK (elEq el' el) (bK (lenK xs 0 (Nat.ble (Nat.succ z.toNat))) (nthK .undef xs z.toNat fun y => K (.eref el y 0) s)) = true from h3)
        rw [bK_iff, len0, nble, decide_eq_true_eq, nthK_eq] at h4
        exact ⟨elEq_iff.1 e1, h2, by have := h4.1; omega, ex h4.2⟩
      case own el' l m o n =>
        obtain ⟨e1, h4⟩ := bK_iff.1 (show bK (elEq el' el) (bK (Nat.ble (Nat.succ z.toNat) n) (vecK el l m s fun _ _ => fN (Nat.add o z.toNat) fun i => K (.vref el l m i 0) s)) = true from h3)
        rw [bK_iff, nble, decide_eq_true_eq] at h4
        obtain ⟨T, t', ho, h5⟩ := vecK_ok h4.2
        rw [fN_eq] at h5
        simp only [ho]
        exact ⟨elEq_iff.1 e1, h2, by have := h4.1; omega, trivial, by rw [lst_length], ex h5⟩
    | some n =>
      obtain ⟨h4, h5⟩ := bK_iff.1 (show bK (Nat.ble (Nat.succ z.toNat) n) (faddrP (x.ev (t.get .undef)) (Nat.mul z.toNat (elSz el)) fun v => K v s) = true from h3)
      rw [nble, decide_eq_true_eq] at h4
      rcases faddrP_ok h5 with ⟨l, o, hx, h6⟩ | ⟨el', y, o, hx, h6⟩ | ⟨el', l, m, j, o, hx, h6⟩ <;> (rw [hx]; exact ⟨h2, by omega, ex h6⟩)
  case idxS x i =>
    replace h : (evK i t fun j => onInt j fun _ z => natI z fun k => evK x t fun a => onStr a fun b => dropK b k fun c => @List.rec UInt8 (fun _ => Bool) false (fun d _ _ => fN d.toNat fun n => K (.int .u8 (Int.ofNat n)) s) c) = true := h
    rw [evK_eq] at h
    obtain ⟨kk, z, hi, h1⟩ := onInt_ok h
    obtain ⟨h2, h3⟩ := natI_ok h1
    rw [evK_eq] at h3
    obtain ⟨b, hx, h4⟩ := onStr_ok h3
    rw [dropK_eq] at h4
    simp only [AOp.run, hi, hx]
    cases hd : b.drop z.toNat with
    | nil => rw [hd] at h4; exact no h4 rfl
    | cons d l =>
      rw [hd] at h4
      replace h4 : (fN d.toNat fun n => K (.int .u8 (Int.ofNat n)) s) = true := h4
      rw [fN_eq] at h4
      have hlt : z.toNat < b.length := by
        rcases Nat.lt_or_ge z.toNat b.length with h | h
        · exact h
        · rw [List.drop_eq_nil_of_le h] at hd; cases hd
      have hg : b.getD z.toNat 0 = d := by
        rw [List.getD_eq_getElem?_getD, List.getElem?_eq_getElem hlt]
        have := List.drop_eq_getElem_cons hlt
        rw [hd] at this
        injection this with e1 e2
        exact e1.symm
      exact ⟨h2, by omega, by rw [hg]; exact ex h4⟩
  case idxA el ln x i =>
    cases el with | mk g z0 =>
    replace h : (evK i t fun j => onInt j fun _ z => natI z fun k => evK x t fun a => onAgg a fun cs => bK (Nat.ble (Nat.succ k) ln)
      (fN (Nat.mul k z0) fun off => bK (lenK cs 0 (Nat.ble (Nat.add off z0))) (iK g (cutK cs off z0 fun ds => K (.agg ds) s) (bK (Nat.beq z0 1) (nthK .undef cs off fun v => K v s))))) = true := h
    rw [evK_eq] at h
    obtain ⟨kk, z, hi, h1⟩ := onInt_ok h
    obtain ⟨h2, h3⟩ := natI_ok h1
    rw [evK_eq] at h3
    obtain ⟨cs, hx, h4⟩ := onAgg_ok h3
    rw [bK_iff, nble, decide_eq_true_eq, fN_eq, bK_iff, len0, nble, decide_eq_true_eq, iK_eq] at h4
    obtain ⟨h5, h6, h7⟩ := h4
    simp only [AOp.run, hi, hx]
    refine ⟨h2, by omega, h6, ?_⟩
    cases g with
    | true => rw [if_pos rfl, cutK_eq] at h7; exact ⟨fun h => (by cases h), ex h7⟩
    | false => rw [if_neg (by simp), bK_iff, nbeq, nthK_eq] at h7; exact ⟨fun _ => h7.1, ex h7.2⟩
  case ext x i =>
    replace h : (evK x t fun a => onTup a fun vs => bK (lenK vs 0 (Nat.ble (Nat.succ i))) (nthK .undef vs i fun v => K v s)) = true := h
    rw [evK_eq] at h
    obtain ⟨vs, hx, h1⟩ := onTup_ok h
    rw [bK_iff, len0, nble, decide_eq_true_eq, nthK_eq] at h1
    simp only [AOp.run, hx]
    exact ⟨h1.1, ex h1.2⟩
  case call q f args =>
    cases q with
    | false => exact absurd rfl hcl
    | true =>
      replace h : (evK f t fun g => onFn g fun fn a b => onFunc fn fun n => evsK args t fun az => appendK az b fun zs => appendK a zs fun ys => callD c n ys s K) = true := h
      rw [evK_eq] at h
      obtain ⟨fn, a, b, hx, h1⟩ := onFn_ok h
      obtain ⟨n, rfl, h2⟩ := onFunc_ok h1
      rw [evsK_eq, appendK_eq, appendK_eq] at h2
      simp only [AOp.run, hx]
      rw [List.append_assoc]
      exact callD_ok hc h2 fun v s' hv => ex hv
  case meth => exact no h rfl
  case len q x =>
    replace h : (evK x t fun a => iK q (onStr a fun b => lenK b 0 fun n => K (.int .i64 (Int.ofNat n)) s) (lenP a fun n => K (.int .i64 (Int.ofNat n)) s)) = true := h
    rw [evK_eq, iK_eq] at h
    simp only [AOp.run]
    generalize x.ev (t.get .undef) = v at h ⊢
    cases q with
    | true =>
      rw [if_pos rfl] at h
      obtain ⟨b, rfl, h1⟩ := onStr_ok h
      rw [len0] at h1
      exact ex h1
    | false =>
      rw [if_neg (by simp)] at h
      cases v <;> first | exact no h rfl | skip
      case nils => exact ex h
      case lst f el xs => replace h : (lenK xs 0 fun n => K (.int .i64 (Int.ofNat n)) s) = true := h; rw [len0] at h; exact ex h
      case own el l m lo n => exact ex h
  case app T el x y =>
    replace h : (evK x t fun a => evK y t fun b => appK s T el a b K) = true := h
    rw [evK_eq, evK_eq] at h
    exact appK_ok h fun v s' hv => ex hv
  case usd el x =>
    replace h : (evK x t fun a => usdP a s el fun v => K v s) = true := h
    rw [evK_eq] at h
    simp only [AOp.run]
    generalize x.ev (t.get .undef) = v at h ⊢
    cases v <;> first | exact no h rfl | skip
    case nils => exact ex h
    case own el' l m lo n =>
      obtain ⟨h1, h2⟩ := bK_iff.1 (show bK (elEq el' el) (vecK el l m s fun _ _ => bK (Nat.ble 1 n) (K (.vref el l m lo 0) s)) = true from h)
      obtain ⟨T, t', ho, h3⟩ := vecK_ok h2
      rw [bK_iff, nble, decide_eq_true_eq] at h3
      simp only [ho]
      exact ⟨elEq_iff.1 h1, trivial, by rw [lst_length], h3.1, ex h3.2⟩
  case min x xs =>
    replace h : (evK x t fun a => evsK xs t fun ys => minsK true a ys fun v => K v s) = true := h
    rw [evK_eq, evsK_eq] at h
    exact minsK_ok (K' := fun v => Ex K v s.abs) (fun v hv => ex hv) _ _ h
  case max x xs =>
    replace h : (evK x t fun a => evsK xs t fun ys => minsK false a ys fun v => K v s) = true := h
    rw [evK_eq, evsK_eq] at h
    exact minsK_ok (K' := fun v => Ex K v s.abs) (fun v hv => ex hv) _ _ h
  case mkslice el zero n cc =>
    replace h : (evK n t fun a => onInt a fun k z => bK (kEq k .i64) (natI z fun i => evK cc t fun b => onInt b fun k' z' => bK (kEq k' .i64) (natI z' fun j => bK (Nat.ble i j) (bK (roomB j el) (bK (fitsB zero el) (repK zero i fun xs => ofK .undef xs 0 .nil fun _ t' => s.pushK (.vec none el i t') fun l s' => K (.own el l i 0 i) s')))))) = true := h
    rw [evK_eq] at h
    obtain ⟨k, z, hx, h1⟩ := onInt_ok h
    obtain ⟨e1, h2⟩ := bK_iff.1 h1
    obtain ⟨e2, h3⟩ := natI_ok h2
    rw [evK_eq] at h3
    obtain ⟨k', z', hy, h4⟩ := onInt_ok h3
    obtain ⟨e3, h5⟩ := bK_iff.1 h4
    obtain ⟨e4, h6⟩ := natI_ok h5
    rw [bK_iff, bK_iff, bK_iff, nble, decide_eq_true_eq, fitsB_eq, repK_eq] at h6
    obtain ⟨e5, e6, e7, h7⟩ := h6
    rw [kEq_iff] at e1 e3
    subst e1; subst e3
    obtain ⟨t', h8, h9⟩ := ofK_nil _ h7
    obtain ⟨s', h10, h11⟩ := St.pushK_ok h8
    have hr := roomB_ok e6
    simp only [AOp.run, hx, hy]
    simp only [OB.abs] at h10
    rw [List.length_replicate] at h9
    rw [h9] at h10
    refine ⟨e7, e2, by omega, ?_, s', h10.symm, h11⟩
    have hr : z'.toNat * (el.sz + 1) ≤ 2 ^ 40 := hr
    obtain ⟨m, rfl⟩ := Int.eq_ofNat_of_zero_le e4
    simp only [Int.toNat_natCast] at hr
    exact_mod_cast hr
  case mkvec el =>
    obtain ⟨s', h3, h4⟩ := St.pushK_ok (show (s.pushK (.vec none el 0 .nil) fun l s' => K (.own el l 0 0 0) s') = true from h)
    exact ⟨s', by rw [h3]; rfl, h4⟩
  case allocAt k T cs =>
    obtain ⟨n, h1, h2, h3⟩ := heldK_ok (show (heldK k t s fun n => ofK .undef cs 0 .nil fun m t' => s.setK n (.cells T m t') fun s' => K (.ref n 0) s') = true from h)
    obtain ⟨t', h4, h5⟩ := ofK_nil _ h3
    obtain ⟨s', h6, h7⟩ := St.setK_ok h4
    simp only [AOp.run, h1, h2]
    exact ⟨s', by rw [h6]; simp only [OB.abs, h5], h7⟩
  case appAt k T el x y =>
    obtain ⟨n, h1, h2, h3⟩ := heldK_ok (show (heldK k t s fun n => evK x t fun a => evK y t fun b => noneP a el (pureP b el fun ys => bK (allB (fun a => fitsB a el) ys) (ofK .undef ys 0 .nil fun m t' => bK (roomB m el) (s.setK n (.vec T el m t') fun s' => K (.own el n m 0 m) s')))) = true from h)
    rw [evK_eq, evK_eq] at h3
    have e1 : noneL el (x.ev (t.get .undef)) = true ∧ (pureP (y.ev (t.get .undef)) el fun ys => bK (allB (fun a => fitsB a el) ys) (ofK .undef ys 0 .nil fun m t' => bK (roomB m el) (s.setK n (.vec T el m t') fun s' => K (.own el n m 0 m) s'))) = true := by
      generalize x.ev (t.get .undef) = v at h3 ⊢
      cases v <;> first | exact no h3 rfl | skip
      case nils => exact ⟨rfl, h3⟩
      case lst f el' xs =>
        obtain ⟨a1, b1⟩ := bK_iff.1 (show bK f (bK (elEq el' el) (bK (isNilL xs) _)) = true from h3)
        obtain ⟨a2, b2⟩ := bK_iff.1 b1
        obtain ⟨a3, b3⟩ := bK_iff.1 b2
        rw [elEq_iff] at a2; rw [isNilL_iff] at a3
        subst a1; subst a2; subst a3
        exact ⟨by simp [noneL], b3⟩
    have e2 : ∃ ys, pureL el (y.ev (t.get .undef)) = some ys ∧ bK (allB (fun a => fitsB a el) ys) (ofK .undef ys 0 .nil fun m t' => bK (roomB m el) (s.setK n (.vec T el m t') fun s' => K (.own el n m 0 m) s')) = true := by
      have h4 := e1.2
      generalize y.ev (t.get .undef) = v at h4 ⊢
      cases v <;> first | exact no h4 rfl | skip
      case nils => exact ⟨[], rfl, h4⟩
      case lst f el' xs =>
        obtain ⟨a1, b1⟩ := bK_iff.1 (show bK (elEq el' el) _ = true from h4)
        rw [elEq_iff] at a1
        subst a1
        exact ⟨xs, by simp [pureL], b1⟩
    obtain ⟨ys, e3, e4⟩ := e2
    rw [bK_iff, allB_eq] at e4
    obtain ⟨t', h5, h6⟩ := ofK_nil _ e4.2
    rw [bK_iff] at h5
    obtain ⟨s', h7, h8⟩ := St.setK_ok h5.2
    simp only [AOp.run, h1, h2, e3]
    refine ⟨e1.1, by rw [← e4.1]; congr 1; funext a; exact (fitsB_eq a el).symm, roomB_ok h5.1, s', ?_, h8⟩
    rw [h7]; simp only [OB.abs, h6]
  case eqnil neg k x y =>
    replace h : (evK x t fun a => evK y t fun b => nilEqK k a b fun r => tB (negB neg r) fun v => K v s) = true := h
    rw [evK_eq, evK_eq] at h
    obtain ⟨r, h1, h2⟩ := nilEqK_ok h
    rw [tB_eq, negB_eq] at h2
    simp only [AOp.run, h1]
    exact ex h2
  all_goals exact absurd rfl hcl
theorem opK_ex {o : AOp} {c : Ctx} (hc : CtxOk c) {t : Tr AV} {s : St} {K Kp : KT} (h : AOp.K o c t s K Kp = true) : ∃ out s', outK K Kp out s' = true ∧ o.run c.P (t.get .undef) s.abs (fun v σ' => out = .ret v ∧ σ' = s'.abs) (fun v σ' => out = .panic v ∧ σ' = s'.abs) := by
  by_cases hcl : o.cls = .no
  · cases o <;> first | (simp [AOp.cls] at hcl; done) | skip
    case bslice mt el z n ps => cases mt <;> (simp [AOp.cls] at hcl)
    case call q f args =>
      cases q with
      | true => exact absurd hcl (by simp [AOp.cls])
      | false =>
        replace h : (evK f t fun g => onFn g fun fn a b => onFunc fn fun n => evsK args t fun az => appendK az b fun zs => appendK a zs fun ys => c.call n ys s (outK K Kp)) = true := h
        rw [evK_eq] at h
        obtain ⟨fn, a, b, hx, h1⟩ := onFn_ok h
        obtain ⟨n, rfl, h2⟩ := onFunc_ok h1
        rw [evsK_eq, appendK_eq, appendK_eq] at h2
        obtain ⟨out, s', h3, h4⟩ := hc.call _ _ _ _ h2
        refine ⟨out, s', h3, ?_⟩
        simp only [AOp.run, hx]
        rw [if_neg (by simp), List.append_assoc]
        refine h4.mono ?_
        rintro o' σ' ⟨rfl, rfl⟩
        cases o' <;> exact ⟨rfl, rfl⟩
    case ustr => exact no h rfl
    case p2u x =>
      replace h : (evK x t fun a => onRef a fun l off => s.getK l fun o => onCells o fun _ n _ => bK (Nat.ble (Nat.succ off) n) (K (.ref l off) s)) = true := h
      rw [evK_eq] at h
      obtain ⟨l, off, hx, h1⟩ := onRef_ok h
      obtain ⟨o, ho, h2⟩ := St.getK_ok h1
      obtain ⟨T, n, t', rfl, h3⟩ := onCells_ok h2
      rw [bK_iff, nble, decide_eq_true_eq] at h3
      refine ⟨.ret (.ref l off), s, h3.2, ?_⟩
      simp only [AOp.run, hx, ho, OB.abs]
      exact ⟨by rw [lst_length]; exact h3.1, trivial, trivial⟩
    case u2p u x =>
      replace h : (evK x t fun a => u2pP a s c.P u fun v => K v s) = true := h
      rw [evK_eq] at h
      generalize hx : x.ev (t.get .undef) = v at h
      cases v <;> first | exact no h rfl | skip
      case ref l off =>
        obtain ⟨o, ho, h2⟩ := St.getK_ok (show (s.getK l fun o => onCells o fun T n _ => @Option.rec TypeId (fun _ => Bool) false (fun T => bK (liesAt c.P c.P.depth T (n / c.P.cellsOf T) off u 1) (K (.ref l off) s)) T) = true from h)
        obtain ⟨T, n, t', rfl, h3⟩ := onCells_ok h2
        cases T with
        | none => exact no h3 rfl
        | some T =>
          replace h3 : bK (liesAt c.P c.P.depth T (n / c.P.cellsOf T) off u 1) (K (.ref l off) s) = true := h3
          rw [bK_iff] at h3
          refine ⟨.ret (.ref l off), s, h3.2, ?_⟩
          simp only [AOp.run, hx, ho, OB.abs, lst_length]
          exact ⟨h3.1, trivial, trivial⟩
    case eqp neg x y =>
      replace h : (evK x t fun a => evK y t fun b => onRef a fun l o => onRef b fun l' o' => bK (Nat.beq l l') (bK (Nat.beq o o') (s.getK l fun ob => onCells ob fun _ _ _ => tB (notK neg) fun v => K v s))) = true := h
      rw [evK_eq, evK_eq] at h
      obtain ⟨l, o, hx, h1⟩ := onRef_ok h
      obtain ⟨l', o', hy, h2⟩ := onRef_ok h1
      rw [bK_iff, bK_iff, nbeq, nbeq] at h2
      obtain ⟨e1, e2, h3⟩ := h2
      obtain ⟨ob, ho, h4⟩ := St.getK_ok h3
      obtain ⟨T, n, t', rfl, h5⟩ := onCells_ok h4
      rw [tB_eq, notK_eq] at h5
      refine ⟨.ret (.bool neg.not), s, h5, ?_⟩
      simp only [AOp.run, hx, hy, ho, OB.abs]
      exact ⟨e1, e2, trivial, trivial⟩
    case noesc f x =>
      replace h : bK (c.ne f) (evK x t fun v => K v s) = true := h
      rw [bK_iff, evK_eq] at h
      exact ⟨.ret _, s, h.2, hc.ne _ h.1, rfl, rfl⟩
    case panic x =>
      replace h : (evK x t fun a => onIfc a fun T v => Kp (.ifc T v) s) = true := h
      rw [evK_eq] at h
      obtain ⟨T, v, hx, h1⟩ := onIfc_ok h
      refine ⟨.panic (.ifc T v), s, h1, ?_⟩
      simp only [AOp.run, hx]
      exact ⟨trivial, trivial⟩
    case hold =>
      obtain ⟨s', h1, h2⟩ := St.pushK_ok (show (s.pushK .resv fun l s' => K (.ref l 0) s') = true from h)
      exact ⟨.ret (.ref s.abs.length 0), s', h2, rfl, h1.symm⟩
    case rngS x =>
      replace h : (evK x t fun a => onStr a fun b => s.pushK (.siter b 0) fun l s' => K (.ref l 0) s') = true := h
      rw [evK_eq] at h
      obtain ⟨b, hx, h1⟩ := onStr_ok h
      obtain ⟨s', h2, h3⟩ := St.pushK_ok h1
      refine ⟨.ret (.ref s.abs.length 0), s', h3, ?_⟩
      simp only [AOp.run, hx]
      exact ⟨trivial, h2.symm⟩
    case nxtS x =>
      replace h : (evK x t fun a => onRef a fun l z => bK (Nat.beq z 0) (s.getK l fun o => onIter o fun b p => iK (lenK b 0 (Nat.ble (Nat.succ p)))
        (fI (Utf8.decode ⟨b.toArray⟩ p).1 fun r => fN (Nat.add p (Utf8.decode ⟨b.toArray⟩ p).2) fun q => s.setK l (.siter b q) fun s' => K (.tup [.bool true, .int .i64 (Int.ofNat p), .int .i32 r]) s')
        (K (.tup [.bool false]) s))) = true := h
      rw [evK_eq] at h
      obtain ⟨l, z, hx, h1⟩ := onRef_ok h
      rw [bK_iff, nbeq] at h1
      obtain ⟨rfl, h2⟩ := h1
      obtain ⟨ob, ho, h3⟩ := St.getK_ok h2
      obtain ⟨b, p, rfl, h4⟩ := onIter_ok h3
      rw [len0, nble, iK_eq] at h4
      by_cases hp : p < b.length
      · rw [if_pos (decide_eq_true (show p.succ ≤ b.length from hp)), fI_eq, fN_eq] at h4
        obtain ⟨s', h5, h6⟩ := St.setK_ok h4
        refine ⟨.ret _, s', h6, ?_⟩
        simp only [AOp.run, hx, ho, OB.abs, if_pos hp]
        exact ⟨rfl, h5.symm⟩
      · rw [if_neg (fun h => hp (show p.succ ≤ b.length from of_decide_eq_true h))] at h4
        refine ⟨.ret _, s, h4, ?_⟩
        simp only [AOp.run, hx, ho, OB.abs, if_neg hp]
        exact ⟨trivial, trivial⟩
  · obtain ⟨v, σ', hD, s', rfl, hk⟩ := (run_iff hcl).1 (opK_run hc hcl h)
    exact ⟨.ret v, s', hk, (run_iff hcl).2 ⟨v, s'.abs, hD, rfl, rfl⟩⟩
end Go.AM.B
