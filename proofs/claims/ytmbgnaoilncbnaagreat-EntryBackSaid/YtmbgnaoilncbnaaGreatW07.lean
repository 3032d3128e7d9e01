/- Part of a proof: see Root. -/
import Derived.Test.YtmbgnaoilncbnaaGreatW06
set_option linter.unnecessarySimpa false
set_option linter.unusedSimpArgs false
set_option linter.unusedVariables false
namespace Go.AM
def Nxt (g : Ghost) (w : World) (σ : Store) (a : Act) (dst : Option Tmp) (K : AV → Store → Prop) (a' : Act) (w' : World) : Prop :=
  ∃ v g' av σ', a' = a.put dst v ∧ Rel g' w' σ' ∧ Evo σ g w σ' g' w' ∧ VR g' w' av v ∧ K av σ'
def Pnc (g : Ghost) (w : World) (σ : Store) (a : Act) (Kp : AV → Store → Prop) (ex : Exit) (a' : Act) (w' : World) : Prop :=
  a' = a ∧ ∃ v g' av σ', ex = .panic [{ v, recovered := false }] ∧ Rel g' w' σ' ∧ Evo σ g w σ' g' w' ∧ VR g' w' av v ∧ Kp av σ'
abbrev WF (ro : Option Nat) : Fence := { Fence.wide with round := ro }
theorem wf_room (ro : Option Nat) (n : Nat) : (WF ro).room n := fun _ h => by simp [WF, Fence.wide] at h
theorem callsWF {ro : Option Nat} {n : Nat} {P : Program} {f : FuncId} {args : Array Value} {w : World} {R : Ending → World → Prop} : CallsIn (WF ro) n P f args w R ↔ Calls P f args w R := callsIn_wide (n := n)
def NoDef (o : Oper) : Prop := ∀ c, o.op ≠ .defer c
section
variable {P : Program} {g : Ghost} {w : World} {σ : Store} {K Kp : AV → Store → Prop} {ro : Option Nat} {wn : Nat}
theorem wpIn_of_run {o : Oper} {a : Act} {next : Act → World → Prop} {Q : Exit → Act → World → Prop} (hnd : NoDef o) (h : o.uponIn (WF ro) wn P a next Q ((execOp a.eval o).run P w)) : o.wpIn (WF ro) wn P a w next Q := by
  refine ⟨fun _ _ => trivial, ?_⟩
  rw [Oper.semAt_eq _ _ _ hnd]; exact h
theorem wp_of_value {o : Oper} {a : Act} {v : Value} {w' : World} {next : Act → World → Prop} {Q : Exit → Act → World → Prop} (hnd : NoDef o) (h : (execOp a.eval o).run P w = .ok (.value v) w') (hn : next (a.put o.dst v) w') : o.wpIn (WF ro) wn P a w next Q := by
  refine wpIn_of_run hnd ?_; rw [h]; exact hn
theorem wp_of_RunS {o : Oper} {a : Act} {s : Sem Value} {Q : Exit → Act → World → Prop} (hnd : NoDef o) (h : RunS P s g w σ K) (hs : execOp a.eval o = (do pure (.value (← s)) : Sem Next)) : o.wpIn (WF ro) wn P a w (Nxt g w σ a o.dst K) Q := by
  obtain ⟨v, w', g', av, σ', h1, h2, h3, h4, h5⟩ := h
  refine wp_of_value hnd (v := v) (w' := w') ?_ ⟨v, g', av, σ', rfl, h2, h3, h4, h5⟩
  rw [hs]; simp [h1]
theorem wp_of_val {o : Oper} {a : Act} {v : Value} {av : AV} {Q : Exit → Act → World → Prop} (hnd : NoDef o) (hR : Rel g w σ) (hs : (execOp a.eval o).run P w = .ok (.value v) w) (hv : VR g w av v) (hk : K av σ) : o.wpIn (WF ro) wn P a w (Nxt g w σ a o.dst K) Q :=
  wp_of_value hnd hs ⟨v, g, av, σ, rfl, hR, .refl _ _ _, hv, hk⟩
theorem boundR_of {nt : Nat} {x : Option Operand} {ax : Option AX} {e : Env} {a : Act} (h : cXo nt x = some ax) (hE : EnvR nt g w e a.tmps) : BoundR g w (ax.map (AX.ev e)) (x.map a.eval) := by
  cases x with
  | none => cases h; trivial
  | some x =>
    simp only [cXo, Option.map_eq_some_iff] at h
    obtain ⟨b, h1, rfl⟩ := h
    exact cX_rel h1 hE
theorem args_rel {nt : Nat} {xs : Array Operand} {az : List AX} {e : Env} {a : Act} (h : cXs nt xs.toList = some az) (hE : EnvR nt g w e a.tmps) :
    (az.map (AX.ev e)).length = (xs.map a.eval).size ∧ ∀ i, i < (az.map (AX.ev e)).length → VR g w ((az.map (AX.ev e)).getD i .undef) ((xs.map a.eval).getD i Go.undef) := by
  obtain ⟨h1, h2⟩ := cXs_rel h hE
  refine ⟨by simp [h1], fun i hi => ?_⟩
  have := h2 i (by simpa using hi)
  simpa using this
theorem append_rel {az bs : List AV} {us vs : Array Value} (h1 : az.length = us.size) (h2 : ∀ i, i < az.length → VR g w (az.getD i .undef) (us.getD i Go.undef)) (h3 : bs.length = vs.size) (h4 : ∀ i, i < bs.length → VR g w (bs.getD i .undef) (vs.getD i Go.undef)) :
    (az ++ bs).length = (us ++ vs).size ∧ ∀ i, i < (az ++ bs).length → VR g w ((az ++ bs).getD i .undef) ((us ++ vs).getD i Go.undef) := by
  refine ⟨by simp [h1, h3], fun i hi => ?_⟩
  simp only [List.length_append] at hi
  by_cases h : i < az.length
  · have := h2 i h
    have h5 : i < us.size := by omega
    simpa [List.getElem?_append_left h, Array.getElem?_append_left h5] using this
  · obtain ⟨j, rfl⟩ : ∃ j, i = az.length + j := ⟨i - az.length, by omega⟩
    have := h4 j (by omega)
    rw [h1]
    have e1 : (az ++ bs).getD (us.size + j) .undef = bs.getD j .undef := by rw [← h1]; simp [List.getElem?_append_right]
    have e2 : (us ++ vs).getD (us.size + j) Go.undef = vs.getD j Go.undef := by
      rw [Array.getD_eq_getD_getElem?, Array.getElem?_append_right (by omega)]; simp
    rw [e1, e2]; exact this
theorem meth_call {f : AX} {args : List AX} {e : Env} {K Kp : AV → Store → Prop} (h : (AOp.meth f args).run P e σ K Kp) : (AOp.call false f args).run P e σ K Kp := by
  simp only [AOp.run] at *
  split at h
  · rename_i n hf
    unfold methA at h
    split at h
    · rename_i a r ha
      obtain ⟨l, ob, ob', r, _, _, _, h4, h5⟩ := h
      simp only [hf, Bool.false_eq_true, if_false, List.nil_append, List.append_nil]
      exact h4.mono fun o s ⟨e1, e2⟩ => by subst e1; subst e2; exact h5
    · exact h.elim
  · exact h.elim
theorem callOp_key {m q : Bool} {f : AX} {args : List AX} {e : Env} {K Kp : AV → Store → Prop} (h : (callOp m q f args).run P e σ K Kp) : ∃ q, (AOp.call q f args).run P e σ K Kp := by
  cases m
  · exact ⟨q, h⟩
  · exact ⟨false, meth_call h⟩
theorem call_wp {o : Oper} {a : Act} {f : FuncId} {vs : Array Value} {args : List AV} (hnd : NoDef o) (hex : (execOp a.eval o).run P w = .ok (.enter f vs) w) (hR : Rel g w σ) (hl : args.length = vs.size)
    (h : ∀ i, i < args.length → VR g w (args.getD i .undef) (vs.getD i Go.undef)) (hc : CallA P f args σ fun
      | .ret r, σ' => K r σ'
      | .panic r, σ' => Kp r σ') : o.wpIn (WF ro) wn P a w (Nxt g w σ a o.dst K) (Pnc g w σ a Kp) := by
  refine wpIn_of_run hnd ?_
  rw [hex]
  refine ⟨fun h => by simp [WF, Fence.wide] at h, callsWF.2 ((hc.2 g w vs hR hl h).mono ?_)⟩
  rintro e w' ⟨out, g', σ', h1, h2, h3, h4⟩
  cases out with
  | ret r =>
    cases e with
    | returned v => exact ⟨v, g', r, σ', rfl, h1, h2, h3, h4⟩
    | panicked c => exact h3.elim
    | outgrown => exact h3.elim
  | panic r =>
    cases e with
    | returned v => exact h3.elim
    | panicked c => obtain ⟨v, rfl, h3⟩ := h3; exact ⟨rfl, v, g', r, σ', rfl, h1, h2, h3, h4⟩
    | outgrown => exact h3.elim
theorem yield_wp {o : Oper} {a : Act} {l b : Nat} {vs : Array Value} {args : List AV} (hnd : NoDef o) (hex : (execOp a.eval o).run P w = (Instr.yield b vs).run P w) (hR : Rel g w σ) (hb : g.ver l = 0 → g.base l = some b) (hl : args.length = vs.size)
    (h : ∀ i, i < args.length → VR g w (args.getD i .undef) (vs.getD i Go.undef)) (hc : YieldA P l args σ fun
      | .ret r, σ' => K r σ'
      | .panic r, σ' => Kp r σ') : o.wpIn (WF ro) wn P a w (Nxt g w σ a o.dst K) (Pnc g w σ a Kp) := by
  refine wpIn_of_run hnd ?_
  obtain ⟨⟨nt, e, ps, ca, cb, st, pe, ho⟩, hc⟩ := hc
  have hv0 := (hR.ok l _ ho).1
  obtain ⟨fn, tmps, ca, cb, r1, r2⟩ := hc g w vs b hR (hb hv0) hl h
  rw [hex, r1]
  refine ⟨fun h => by simp [WF, Fence.wide] at h, ?_⟩
  have r3 : RoundIn (WF ro) (wn - 1) P b fn tmps ca cb w _ := ⟨trivial, fun c cs _ => r2.2 c cs (room_wide _)⟩
  refine r3.mono ?_
  rintro e w' ⟨out, g', σ', h1, h2, h3, h4⟩
  cases out with
  | ret r =>
    cases e with
    | returned v => exact ⟨v, g', r, σ', rfl, h1, h2, h3, h4⟩
    | panicked c => exact h3.elim
    | outgrown => exact h3.elim
  | panic r =>
    cases e with
    | returned v => exact h3.elim
    | panicked c => obtain ⟨v, rfl, h3⟩ := h3; exact ⟨rfl, v, g', r, σ', rfl, h1, h2, h3, h4⟩
    | outgrown => exact h3.elim
theorem callFunc_run {f : FuncId} (h : Has P f) (args : Array Value) (w : World) : (callFunc f args).run P w = .ok (.enter f args) w := by
  obtain ⟨fn, h1, h2, h3⟩ := h
  have h4 : fn.body.isNone = false := by cases hb : fn.body <;> simp_all
  simp only [callFunc, Sem.run_bind, run_program, Result.andThen_ok, h1, h3, h4, Bool.false_eq_true, if_false, Sem.run_pure]
set_option maxHeartbeats 1000000 in
theorem op_sound {nt : Nat} {h : Hints} {dr : Bool} {o : Oper} {ao : AOp} {e : Env} {a : Act} (hc : compileOp P nt h dr o = some ao) (hR : Rel g w σ) (hE : EnvR nt g w e a.tmps) (hK : ao.run P e σ K Kp) :
    o.wpIn (WF ro) wn P a w (Nxt g w σ a o.dst K) (Pnc g w σ a Kp) := by
  have hnd : NoDef o := fun c hop => by simp [compileOp, hop] at hc
  unfold compileOp at hc
  cases hop : o.op <;> simp only [hop] at hc <;> (try (cases hc; done))
  case move x =>
    simp only [Option.map_eq_some_iff] at hc
    obtain ⟨ax, h1, rfl⟩ := hc
    exact wp_of_val hnd hR (by simp [execOp, hop]) (cX_rel h1 hE) hK
  case assign x =>
    have mv : ∀ ax, cX nt x = some ax → AOp.run P (.mv ax) e σ K Kp → o.wpIn (WF ro) wn P a w (Nxt g w σ a o.dst K) (Pnc g w σ a Kp) := fun ax h1 hK =>
      wp_of_val hnd hR (by simp [execOp, hop]) (cX_rel h1 hE) hK
    split at hc
    · rename_i el hel
      split at hc
      · rename_i hnil
        cases hc
        have hx : a.eval x = .slice none 0 0 := by
          cases x with
          | const v =>
            cases v with
            | slice p l c =>
              cases p with
              | none => simp [isNilSlice] at hnil; obtain ⟨rfl, rfl⟩ := hnil; rfl
              | some p => simp [isNilSlice] at hnil
            | _ => simp [isNilSlice] at hnil
          | _ => simp [isNilSlice] at hnil
        obtain ⟨r1, r2⟩ := hR.mkvec el
        refine wp_of_value hnd (v := .slice none 0 0) (w' := w) (by simp [execOp, hop, hx]) ⟨_, _, _, _, rfl, r1, r2, .own _ _ _ _ _ _ ⟨by simp [Ghost.push, hR.len], Nat.zero_le _, _, _, rfl, fun _ => ⟨by omega, by simp [Ghost.push, hR.len], fun h => by simp [Ghost.push, hR.len] at h⟩⟩, hK⟩
      · simp only [Option.map_eq_some_iff] at hc
        obtain ⟨ax, h1, rfl⟩ := hc
        exact mv ax h1 hK
    · simp only [Option.map_eq_some_iff] at hc
      obtain ⟨ax, h1, rfl⟩ := hc
      exact mv ax h1 hK
  case pick c x y =>
    split at hc
    · rename_i ac ax ay h1 h2 h3
      cases hc
      have hv := cX_rel h1 hE
      simp only [AOp.run] at hK
      generalize AX.ev e ac = z at hv hK
      generalize hev : a.eval c = cv at hv
      cases hv <;> simp only at hK
      rename_i t
      refine wp_of_val hnd (v := if t then a.eval x else a.eval y) hR (by simp [execOp, hop, hev, asBool]) ?_ hK
      cases t
      · exact cX_rel h3 hE
      · exact cX_rel h2 hE
    · cases hc
  case alloc t =>
    split at hc
    · rename_i z hz
      split at hc
      · simp only [Option.some.injEq] at hc
        split at hc
        · cases hc
          simp only [AOp.run] at hK
          split at hK
          · split at hK
            · rename_i hn
              exact wp_of_RunS hnd (allocAt_sound (tyHint_or _ _) hR hn hz hK) (by simp [execOp, hop])
            · exact hK.elim
          · exact hK.elim
        · cases hc
          exact wp_of_RunS hnd (alloc_sound (tyHint_or _ _) hR hz hK) (by simp [execOp, hop])
      · cases hc
    · cases hc
  case box t x =>
    simp only [Option.map_eq_some_iff] at hc
    obtain ⟨ax, h1, h2⟩ := hc
    split at h2 <;> subst h2 <;> simp only [AOp.run] at hK
    · exact wp_of_RunS hnd (boxT_sound (t := t) hR (cX_rel h1 hE) hK.1 hK.2) (by simp [execOp, hop])
    · exact wp_of_RunS hnd (box_sound (t := t) hR (cX_rel h1 hE) hK.1 hK.2) (by simp [execOp, hop])
  case build t parts =>
    split at hc
    · rename_i z fs hz hu
      split at hc
      · rename_i hh
        simp only [Bool.and_eq_true] at hh
        simp only [Option.map_eq_some_iff] at hc
        obtain ⟨ps, h1, rfl⟩ := hc
        exact wp_of_RunS hnd (build_struct_sound hR hE hz hh.2 hu hh.1 h1 hK) (by simp [execOp, hop])
      · cases hc
    · rename_i z n el hz hu
      split at hc
      · rename_i hh
        simp only [Bool.and_eq_true, Option.isSome_iff_exists] at hh
        obtain ⟨⟨fi, hi⟩, _⟩ := hh
        simp only [Option.map_eq_some_iff] at hc
        obtain ⟨ps, h1, rfl⟩ := hc
        exact wp_of_RunS hnd (build_array_sound hR hE hz hu hi h1 hK) (by simp [execOp, hop])
      · cases hc
    · cases hc
  case buildSlice t n parts =>
    split at hc
    · rename_i el hu
      split at hc
      · rename_i el' z he hz
        split at hc
        · rename_i hh
          simp only [Bool.and_eq_true, decide_eq_true_eq] at hh
          simp only [Option.map_eq_some_iff] at hc
          obtain ⟨ps, h1, rfl⟩ := hc
          exact wp_of_RunS hnd (bslice_sound hR hE hu he hz hh.1 hh.2 h1 hK) (by simp [execOp, hop])
        · cases hc
      · cases hc
    · cases hc
  case load t x =>
    split at hc
    · rename_i ag i ax hA hi h1
      split at hc
      · rename_i hh
        cases hc
        exact wp_of_RunS hnd (load_sound hR hA hi (fun e => by simpa [e] using hh) (cX_rel h1 hE) hK) (by simp [execOp, hop])
      · cases hc
    · cases hc
  case store t x y =>
    split at hc
    · rename_i i ax ay hi h1 h2
      cases hc
      obtain ⟨w', g', σ', r1, r2, r3, r4⟩ := store_sound (P := P) hR hi (cX_rel h1 hE) (cX_rel h2 hE) hK
      refine wpIn_of_run hnd ?_
      have : (execOp a.eval o).run P w = .ok .skip w' := by simp [execOp, hop, r1]
      rw [this]
      exact ⟨_, g', .tup [], σ', rfl, r2, r3, .tup [] #[] rfl (fun i hi => absurd hi (Nat.not_lt_zero _)), r4⟩
    · cases hc
  case nilCheck x =>
    simp only [Option.map_eq_some_iff] at hc
    obtain ⟨ax, h1, rfl⟩ := hc
    obtain ⟨v, w', g', av, σ', r1, r2, r3, r4, r5⟩ := nilck_sound (P := P) (K := K) hop rfl hR (cX_rel h1 hE) hK
    exact wp_of_value hnd r1 ⟨v, g', av, σ', rfl, r2, r3, r4, r5⟩
  case binOp op t x y yt =>
    have hs : ∀ {K : AV → Store → Prop}, RunS P (do eqGuard op t x y (a.eval x) (a.eval y); binOp op t (a.eval x) (a.eval y)) g w σ K → o.wpIn (WF ro) wn P a w (Nxt g w σ a o.dst K) (Pnc g w σ a Kp) := fun hh =>
      wp_of_RunS hnd hh (by simp [execOp, hop])
    split at hc
    · rename_i ax ay h1 h2
      have v1 := cX_rel h1 hE
      have v2 := cX_rel h2 hE
      split at hc
      · cases hc; exact hs (bing_sound hR v1 v2 hK)
      · cases hc; exact hs (bing_sound hR v1 v2 hK)
      · rename_i d _ _ hu
        split at hc
        · rename_i k hk
          split at hc
          · split at hc
            · rename_i te _ hpt
              split at hc
              · rename_i i _ hi
                cases hc
                exact hs (eqp_sound (op := .eql) (.inl ⟨rfl, rfl⟩) hR hu hi v1 v2 hK)
              · rename_i i _ hi
                cases hc
                exact hs (eqp_sound (op := .neq) (.inr ⟨rfl, rfl⟩) hR hu hi v1 v2 hK)
              · cases hc
            · cases hc
          split at hc
          · rename_i hn
            simp only [Bool.or_eq_true] at hn
            split at hc
            · cases hc
              refine hs (eqnil_sound (op := .eql) (.inl rfl) hR hu hk hn v1 v2 ?_)
              simp only [AOp.run] at hK
              generalize nilEq k (AX.ev e ax) (AX.ev e ay) = r at hK ⊢
              cases r <;> exact hK
            · cases hc
              refine hs (eqnil_sound (op := .neq) (.inr rfl) hR hu hk hn v1 v2 ?_)
              simp only [AOp.run] at hK
              generalize nilEq k (AX.ev e ax) (AX.ev e ay) = r at hK ⊢
              cases r <;> exact hK
            · cases hc
          · cases hc
        · split at hc
          · rename_i ks ag i hf hA hi
            split at hc
            · rename_i hh
              simp only [Bool.and_eq_true, beq_iff_eq, Bool.or_eq_true, Bool.not_eq_true'] at hh
              have hg : ag = true → P.eqGuardType P.depth t = false := fun e => by
                rcases hh.2 with h | h
                · rw [e] at h; cases h
                · exact h
              split at hc
              · cases hc
                exact hs (eqf_sound (op := .eql) (.inl rfl) hR hf hA hi hh.1 hg v1 v2 hK)
              · cases hc
                exact hs (eqf_sound (op := .neq) (.inr rfl) hR hf hA hi hh.1 hg v1 v2 hK)
              · cases hc
            · cases hc
          · cases hc
      · cases hc
    · cases hc
  case unOp op t x =>
    simp only [Option.map_eq_some_iff] at hc
    obtain ⟨ax, h1, rfl⟩ := hc
    exact wp_of_RunS hnd (un_sound hR (cX_rel h1 hE) hK) (by simp [execOp, hop])
  case convert s d x =>
    have hs : RunS P (convert s d (a.eval x)) g w σ K → o.wpIn (WF ro) wn P a w (Nxt g w σ a o.dst K) (Pnc g w σ a Kp) := fun hh => wp_of_RunS hnd hh (by simp [execOp, hop])
    split at hc
    · rename_i k' k ax hs1 hd1 h1
      cases hc
      exact hs (cint_sound hR hs1 hd1 (cX_rel h1 hE) hK)
    · rename_i ax hs1 hd1 h1
      cases hc
      have v1 := cX_rel h1 hE
      simp only [AOp.run] at hK
      generalize AX.ev e ax = z at v1 hK
      cases z <;> simp only at hK
      exact hs (cid_sound hR hs1 hd1 v1 ⟨_, rfl⟩ hK)
    · rename_i el ax hs1 hd1 h1
      split at hc
      · rename_i i he hi
        split at hc
        · cases hc
          exact hs (s2b_sound (fi := i) hR hs1 hd1 he (cX_rel h1 hE) hK)
        · cases hc
      · cases hc
    · rename_i el ax hs1 hd1 h1
      split at hc
      · rename_i i he hi
        split at hc
        · cases hc
          have v1 := cX_rel h1 hE
          obtain ⟨hn, hK⟩ := hK
          refine hs (b2s_sound hR hs1 hd1 he v1 hK ?_)
          generalize AX.ev e ax = z at v1 hn hK
          generalize a.eval x = xv at v1
          cases v1 <;> simp only [listA] at hK hn
          · exact ⟨_, _, _, rfl⟩
          · exact ⟨_, _, _, rfl⟩
          · exact ⟨_, _, _, rfl⟩
          · rename_i h; obtain ⟨_, _, A, cap, rfl, _⟩ := h; exact ⟨_, _, _, rfl⟩
        · cases hc
      · cases hc
    · rename_i t ax hs1 hd1 h1
      split at hc
      · rename_i i hi
        split at hc
        · cases hc
        · rename_i h0
          cases hc
          exact hs (p2u_sound hR hs1 hd1 hi (by simpa using h0) (cX_rel h1 hE) hK)
      · cases hc
    · rename_i t ax hs1 hd1 h1
      split at hc
      · rename_i i hi
        cases hc
        exact hs (u2p_sound hR hs1 hd1 hi (cX_rel h1 hE) hK)
      · cases hc
    · cases hc
  case makeInterface t x =>
    split at hc
    · cases hc
    · cases hc
    · rename_i d h1 h2
      simp only [Option.map_eq_some_iff] at hc
      obtain ⟨ax, h3, rfl⟩ := hc
      cases hu : P.underlying t with
      | none => exact absurd hu h2
      | some d => exact wp_of_RunS hnd (mkifc_sound hR hu (fun ms e => h1 ms (by rw [hu, e])) (cX_rel h3 hE) hK) (by simp [execOp, hop])
  case makeFunc fn first cap =>
    split at hc
    · rename_i az bs h1 h2
      cases hc
      obtain ⟨a1, a2⟩ := args_rel h1 hE
      obtain ⟨b1, b2⟩ := args_rel h2 hE
      exact wp_of_val hnd (v := .func fn (first.map a.eval) (cap.map a.eval)) hR (by simp [execOp, hop, Instr.makeFunc]) (.fn fn _ _ _ _ a1 b1 a2 b2) hK
    · cases hc
  case slice t x lo hi mx =>
    split at hc
    · rename_i ax al ah am h1 h2 h3 h4
      have v1 := cX_rel h1 hE
      have hm : am = none → mx = none := fun e => by
        cases mx with
        | none => rfl
        | some m => simp only [cXo, Option.map_eq_some_iff] at h4; obtain ⟨b, _, rfl⟩ := h4; cases e
      split at hc
      · rename_i hu
        split at hc
        · rename_i hn
          cases hc
          have : mx = none := hm (by simpa using hn)
          subst this
          exact wp_of_RunS hnd (slS_sound hR hu v1 (boundR_of h2 hE) (boundR_of h3 hE) hK) (by simp [execOp, hop])
        · cases hc
      · rename_i el hu
        split at hc
        · rename_i hn
          simp only [Option.map_eq_some_iff] at hc
          obtain ⟨el', he, rfl⟩ := hc
          have : mx = none := hm (by simpa using hn)
          subst this
          refine wp_of_RunS hnd (slL_sound hR hu he v1 (boundR_of h2 hE) (boundR_of h3 hE) ?_) (by simp [execOp, hop])
          simp only [AOp.run] at hK
          clear v1
          generalize AX.ev e ax = z at hK ⊢
          cases z <;> exact hK
        · cases hc
      · cases hc
    · cases hc
  case fieldAddr s x f =>
    split at hc
    · rename_i fs ax hu h1
      simp only [Option.bind_eq_some_iff] at hc
      obtain ⟨fi, hf, hc⟩ := hc
      split at hc
      · cases hc
      · rename_i h0
        cases hc
        cases hi : P.info? fi.type with
        | none => simp [hi] at h0
        | some i => exact wp_of_RunS hnd (faddr_sound hR hu hf hi (by simpa [hi] using h0) (cX_rel h1 hE) hK) (by simp [execOp, hop])
    · cases hc
  case field s x f =>
    split at hc
    · rename_i fs ax hu h1
      simp only [Option.bind_eq_some_iff] at hc
      obtain ⟨fi, hf, hc⟩ := hc
      split at hc
      · rename_i ag i hA hi
        split at hc
        · cases hc
          exact wp_of_RunS hnd (field_sound hR hu hf hA hi (cX_rel h1 hE) hK) (by simp [execOp, hop])
        · cases hc
      · cases hc
    · cases hc
  case indexAddr t x y =>
    split at hc
    · rename_i el ax ay hu h1 h2
      simp only [Option.map_eq_some_iff] at hc
      obtain ⟨el', he, rfl⟩ := hc
      refine wp_of_RunS hnd (iaddrS_sound hR hu he (cX_rel h1 hE) (cX_rel h2 hE) ?_) (by simp [execOp, hop])
      simp only [AOp.run] at hK
      generalize AX.ev e ax = z at hK ⊢
      generalize AX.ev e ay = z' at hK ⊢
      cases z' <;> simp only at hK ⊢
      cases z <;> exact hK
    · rename_i n el ax ay hu h1 h2
      simp only [Option.map_eq_some_iff] at hc
      obtain ⟨el', he, rfl⟩ := hc
      refine wp_of_RunS hnd (iaddrA_sound hR hu he (cX_rel h1 hE) (cX_rel h2 hE) ?_) (by simp [execOp, hop])
      simp only [AOp.run] at hK
      generalize AX.ev e ax = z at hK ⊢
      generalize AX.ev e ay = z' at hK ⊢
      cases z' <;> simp only at hK ⊢
      cases z <;> exact hK
    · cases hc
  case index t x y =>
    split at hc
    · rename_i ax ay hu h1 h2
      cases hc
      exact wp_of_RunS hnd (idxS_sound hR hu (cX_rel h1 hE) (cX_rel h2 hE) hK) (by simp [execOp, hop])
    · rename_i n el ax ay hu h1 h2
      simp only [Option.map_eq_some_iff] at hc
      obtain ⟨el', he, rfl⟩ := hc
      exact wp_of_RunS hnd (idxA_sound hR hu he (cX_rel h1 hE) (cX_rel h2 hE) hK) (by simp [execOp, hop])
    · cases hc
  case extract x i =>
    simp only [Option.map_eq_some_iff] at hc
    obtain ⟨ax, h1, rfl⟩ := hc
    exact wp_of_RunS hnd (extract_sound hR (cX_rel h1 hE) hK) (by simp [execOp, hop])
  case makeSlice t l c =>
    split at hc
    · rename_i el al ac hu h1 h2
      split at hc
      · rename_i el' z he hz
        cases hc
        exact wp_of_RunS hnd (mkslice_sound hR hu he hz (cX_rel h1 hE) (cX_rel h2 hE) hK) (by simp [execOp, hop])
      · cases hc
    · cases hc
  case range t x =>
    split at hc
    · rename_i ht
      simp only [Option.map_eq_some_iff] at hc
      obtain ⟨ax, h1, rfl⟩ := hc
      have hv := cX_rel h1 hE
      simp only [AOp.run] at hK
      generalize AX.ev e ax = z at hv hK
      generalize hev : a.eval x = xv at hv
      cases hv <;> simp only at hK
      rename_i s
      obtain ⟨r1, r2⟩ := hR.allocObj (.stringIter ⟨s.toArray⟩ 0) (.siter s 0) 1 0 ⟨by simp [Ghost.push], w.heap.size, by simp [Ghost.push], heap_alloc_new w _⟩
      refine wp_of_value hnd (v := .pointer (some ⟨w.heap.size, 0, none⟩)) (w' := w.alloc (.stringIter ⟨s.toArray⟩ 0)) ?_ ⟨_, _, _, _, rfl, r1, r2, .ref _ _ _ ⟨by simp [Ghost.push, hR.len], _, rfl, fun _ => ⟨by simp [Ghost.push, hR.len], rfl⟩⟩, hK⟩
      simp [execOp, hop, hev, Instr.range, run_underlying' ht, newObj, Sem.run]
    · cases hc
  case next x b =>
    split at hc
    · rename_i hb
      simp only [Option.map_eq_some_iff] at hc
      obtain ⟨ax, h1, rfl⟩ := hc
      have hv := cX_rel h1 hE
      simp only [AOp.run] at hK
      generalize AX.ev e ax = z at hv hK
      split at hK
      · split at hK
        · rename_i l _ s pos hl
          generalize hev : a.eval x = xv at hv
          cases hv with
          | ref _ _ _ hO =>
            obtain ⟨_, A, rfl, h2⟩ := hO
            obtain ⟨hv0, bb, hb1, hb2⟩ := hR.ok l _ hl
            obtain ⟨h3, h4⟩ := h2 hv0
            rw [hb1] at h3; cases h3
            have hsz : (⟨s.toArray⟩ : ByteArray).size = s.length := rfl
            split at hK
            · rename_i hlt
              have hup := hR.update (o' := .siter s (pos + (Utf8.decode ⟨s.toArray⟩ pos).2)) (w' := { w with heap := w.heap.setIfInBounds A.block (.stringIter ⟨s.toArray⟩ (pos + (Utf8.decode ⟨s.toArray⟩ pos).2)) }) hl rfl hb1
                (by simp) rfl rfl rfl (fun c hc => by simp [Array.getElem?_setIfInBounds, Ne.symm hc]) (fun _ => ⟨hv0, _, hb1, by have := (Array.getElem?_eq_some_iff.1 hb2).1; simp [this]⟩)
              refine wp_of_value hnd ?_ ⟨_, g, _, _, rfl, hup.1, hup.2, .tup _ #[.bool true, .int .i64 pos, .int .i32 (Utf8.decode ⟨s.toArray⟩ pos).1] rfl (fun i hi => ?_), hK⟩
              · rw [h4] at hev
                have hlt2 : pos < (⟨s.toArray⟩ : ByteArray).size := hlt
                simp only [execOp, hop, hev, Instr.next, getObj, setObj, Sem.run_bind, Sem.run, hb2, Result.andThen, hb, hlt2, if_true]
                have := (Array.getElem?_eq_some_iff.1 hb2).1
                simp [this, goInt]
              · match i, hi with
                | 0, _ => exact .bool true
                | 1, _ => exact .int _ _
                | 2, _ => exact .int _ _
            · rename_i hlt
              refine wp_of_value hnd (v := .tuple #[.bool false]) (w' := w) ?_ ⟨_, g, _, _, rfl, hR, .refl _ _ _, .tup _ _ rfl (fun i hi => ?_), hK⟩
              · rw [h4] at hev
                have hlt2 : ¬ pos < (⟨s.toArray⟩ : ByteArray).size := hlt
                simp only [execOp, hop, hev, Instr.next, getObj, setObj, Sem.run_bind, Sem.run, hb2, Result.andThen, hb, hlt2, if_false]
                rfl
              · match i, hi with
                | 0, _ => exact .bool false
        · exact hK.elim
      · exact hK.elim
    · cases hc
  case panic x =>
    simp only [Option.map_eq_some_iff] at hc
    obtain ⟨ax, h1, rfl⟩ := hc
    have v1 := cX_rel h1 hE
    simp only [AOp.run] at hK
    generalize AX.ev e ax = z at v1 hK
    generalize hev : a.eval x = xv at v1
    cases v1 <;> simp only at hK
    rename_i t b v h
    refine wpIn_of_run hnd ?_
    have : (execOp a.eval o).run P w = .halt (.panic (.iface t v)) w := by simp [execOp, hop, hev, Instr.panic]
    rw [this]
    exact ⟨rfl, .iface t v, g, .ifc t b, σ, rfl, hR, .refl _ _ _, .ifc t b v h, hK⟩
  case call c =>
    obtain ⟨callee, args, ats⟩ := c
    simp only at hc
    cases callee with
    | invoke r m => cases hc
    | value f =>
      simp only at hc
      split at hc
      · rename_i gf ax h0 h2
        cases hc
        obtain ⟨⟨fn, hf, hn, hb, hx1, hx2⟩, hK⟩ := hK
        have hfg : f = .func gf := by
          cases f with
          | func f =>
            simp only [noEsc] at h0
            split at h0
            · split at h0
              · cases h0; rfl
              · cases h0
            · cases h0
          | _ => cases h0
        subst hfg
        have hargs : ∃ x0, args = #[x0] ∧ cX nt x0 = some ax := by
          cases hl : args.toList with
          | nil => rw [hl] at h2; cases h2
          | cons x0 r =>
            rw [hl] at h2
            simp only [cXs] at h2
            split at h2
            · rename_i a1 az1 e1 e2
              cases h2
              cases r with
              | nil => exact ⟨x0, by rw [← Array.toArray_toList (xs := args), hl], e1⟩
              | cons x1 r =>
                simp only [cXs] at e2
                split at e2 <;> cases e2
            · cases h2
        obtain ⟨x0, rfl, hx0⟩ := hargs
        have v1 := cX_rel hx0 hE
        refine wp_of_val hnd hR (v := a.eval x0) ?_ v1 hK
        simp only [execOp, hop, resolve, Sem.run_bind, Act.eval, Deferred.ofValue, Sem.run_pure, Result.andThen_ok, invoke]
        simp only [List.map_toArray, List.map_cons, List.map_nil, List.append_toArray, List.nil_append, List.append_nil]
        rw [run_callFunc_extern hf hn hb hx1 hx2]
        rfl
      · rename_i af az h1 h2 _
        have key : ∃ q, (AOp.call q af az).run P e σ K Kp := by
          cases hc
          exact callOp_key hK
        clear hc hK
        obtain ⟨qq, hK⟩ := key
        have v1 := cX_rel h1 hE
        simp only [AOp.run] at hK
        generalize AX.ev e af = z at v1 hK
        generalize hev : a.eval f = fv at v1
        by_cases hyl : ∃ l, z = .yld l
        · obtain ⟨l, rfl⟩ := hyl
          cases v1
          rename_i hy
          obtain ⟨hl, b, rfl, hb⟩ := hy
          obtain ⟨a1, a2⟩ := args_rel h2 hE
          simp only at hK
          have both : ∀ q : Bool, (if q then False else YieldA P l (az.map (AX.ev e)) σ fun
            | .ret r, σ' => K r σ'
            | .panic r, σ' => Kp r σ') → o.wpIn (WF ro) wn P a w (Nxt g w σ a o.dst K) (Pnc g w σ a Kp) := fun q hK => by
            cases q with
            | true => exact (by simpa using hK : False).elim
            | false =>
            simp only [Bool.false_eq_true, if_false] at hK
            refine yield_wp hnd (b := b) (vs := args.map a.eval) ?_ hR hb a1 a2 hK
            simp only [execOp, hop, resolve, Sem.run_bind, hev, Deferred.ofValue, Sem.run_pure, Result.andThen_ok, invoke]
            simp
          exact both _ hK
        cases v1 <;> (try exact hK.elim)
        case yld => exact absurd ⟨_, rfl⟩ hyl
        rename_i fn first cap first' cap' hl hl' hh hh'
        cases fn <;> (try exact hK.elim)
        rename_i n
        simp only at hK
        obtain ⟨a1, a2⟩ := args_rel h2 hE
        obtain ⟨b1, b2⟩ := append_rel hl hh a1 a2
        obtain ⟨c1, c2⟩ := append_rel b1 b2 hl' hh'
        have hex : Has P n → (execOp a.eval o).run P w = .ok (.enter n (first' ++ args.map a.eval ++ cap')) w := fun hb => by
          simp only [execOp, hop, resolve, Sem.run_bind, hev, Deferred.ofValue, Sem.run_pure, Result.andThen_ok, invoke, callFunc_run hb]
        have both : ∀ q : Bool, (if q then ∃ r, (∀ τ, CallQ P n (first ++ az.map (AX.ev e) ++ cap) (σ ++ τ) r) ∧ K r σ else CallA P n (first ++ az.map (AX.ev e) ++ cap) σ fun
            | .ret r, σ' => K r σ'
            | .panic r, σ' => Kp r σ') → o.wpIn (WF ro) wn P a w (Nxt g w σ a o.dst K) (Pnc g w σ a Kp) := fun q hK => by
          cases q with
          | true =>
            simp only [if_true] at hK
            obtain ⟨r, hq, hk⟩ := hK
            have hq := hq []
            rw [List.append_nil] at hq
            exact call_wp hnd (hex hq.1) hR c1 c2 (hq.mono fun out σ' ⟨h1, h2⟩ => by subst h1; subst h2; exact hk)
          | false =>
            simp only [Bool.false_eq_true, if_false] at hK
            exact call_wp hnd (hex hK.1) hR c1 c2 hK
        exact both _ hK
      · cases hc
    | builtin b =>
      have hs : ∀ {s : Sem Value} {K : AV → Store → Prop}, RunS P s g w σ K → builtin b ats o.type (args.map fun | .const _ => true | _ => false) (args.map a.eval) = (do pure (.value (← s)) : Sem Next) → o.wpIn (WF ro) wn P a w (Nxt g w σ a o.dst K) (Pnc g w σ a Kp) := fun hh hb => by
        refine wp_of_RunS hnd hh ?_
        simp only [execOp, hop, resolve]
        exact hb
      cases b <;> simp only at hc <;> (try (cases hc; done))
      case len =>
        split at hc
        · rename_i t x ht hx
          have hargs : args = #[x] := by rw [← Array.toArray_toList (xs := args), hx]
          subst hargs
          split at hc
          · rename_i hu
            simp only [Option.map_eq_some_iff] at hc
            obtain ⟨ax, h1, rfl⟩ := hc
            refine hs (s := Builtin.len_ ats o.type #[a.eval x]) (lenS_sound hR ht hu (cX_rel h1 hE) ?_) (by simp [builtin])
            simp only [AOp.run] at hK
            generalize AX.ev e ax = z at hK ⊢
            cases z <;> exact hK
          · rename_i el hu
            simp only [Option.map_eq_some_iff] at hc
            obtain ⟨ax, h1, rfl⟩ := hc
            refine hs (s := Builtin.len_ ats o.type #[a.eval x]) (lenL_sound hR ht hu (cX_rel h1 hE) ?_) (by simp [builtin])
            simp only [AOp.run] at hK
            generalize AX.ev e ax = z at hK ⊢
            cases z <;> exact hK
          · cases hc
        · cases hc
      case append =>
        split at hc
        · rename_i t u x y ht hu hx
          have hargs : args = #[x, y] := by rw [← Array.toArray_toList (xs := args), hx]
          subst hargs
          split at hc
          · rename_i el el' ax ay hu1 hu2 h1 h2
            simp only [Option.map_eq_some_iff] at hc
            obtain ⟨el2, he, rfl⟩ := hc
            split at hK
            · simp only [AOp.run] at hK
              split at hK
              · split at hK
                · rename_i hn
                  split at hK
                  · rename_i ys hys
                    exact hs (s := Builtin.append_ ats o.type #[a.eval x, a.eval y]) (appAt_sound hR ht hu hu1 hu2 (by simp) he (cX_rel h1 hE) (cX_rel h2 hE) (.inl rfl) hn hys hK.1 hK.2.1 hK.2.2.1 hK.2.2.2) (by simp [builtin])
                  · exact hK.elim
                · exact hK.elim
              · exact hK.elim
            · exact hs (s := Builtin.append_ ats o.type #[a.eval x, a.eval y]) (app_sound hR ht hu hu1 hu2 (by simp) he (cX_rel h1 hE) (cX_rel h2 hE) (tyHint_or _ _) hK) (by simp [builtin])
          · rename_i el ax ay hu1 hu2 h1 h2
            simp only [Option.map_eq_some_iff] at hc
            obtain ⟨el2, he, rfl⟩ := hc
            exact hs (s := Builtin.append_ ats o.type #[a.eval x, a.eval y]) (app_sound hR ht hu hu1 hu2 (by simp) he (cX_rel h1 hE) (cX_rel h2 hE) (tyHint_or _ _) hK) (by simp [builtin])
          · cases hc
        · cases hc
      case unsafeSliceData =>
        split at hc
        · rename_i t x ht hx
          have hargs : args = #[x] := by rw [← Array.toArray_toList (xs := args), hx]
          subst hargs
          split at hc
          · rename_i el ax hu h1
            simp only [Option.map_eq_some_iff] at hc
            obtain ⟨el2, he, rfl⟩ := hc
            exact hs (s := Builtin.unsafeSliceData_ ats o.type #[a.eval x]) (usd_sound hR (cX_rel h1 hE) hK) (by simp [builtin])
          · cases hc
        · cases hc
      case unsafeString =>
        split at hc
        · rename_i t t2 x y ht hx
          have hargs : args = #[x, y] := by rw [← Array.toArray_toList (xs := args), hx]
          have hats : ats = #[t, t2] := by rw [← Array.toArray_toList (xs := ats), ht]
          subst hargs
          subst hats
          split at hc
          · rename_i e1 ax ay hu h1 h2
            split at hc
            · rename_i hce
              cases hc
              exact hs (s := Builtin.unsafeString_ #[t, t2] o.type #[a.eval x, a.eval y]) (ustr_sound hR hu (by simpa using hce) (cX_rel h1 hE) (cX_rel h2 hE) hK) (by simp [builtin])
            · cases hc
          · cases hc
        · cases hc
      case min =>
        split at hc
        · rename_i ax az h1
          cases hc
          obtain ⟨a1, a2⟩ := args_rel h1 hE
          cases hl : args.toList with
          | nil => rw [hl] at h1; cases h1
          | cons x xs =>
            have hargs : args = (x :: xs).toArray := by rw [← Array.toArray_toList (xs := args), hl]
            subst hargs
            have v0 := a2 0 (by simp)
            refine hs (s := Builtin.min_ ats o.type (a.eval x :: xs.map a.eval).toArray) (min_sound (x := ax.ev e) (xs := az.map (AX.ev e)) hR (by simpa using v0) (by simpa using a1) (fun i hi => by simpa using a2 (i + 1) (by simpa using hi)) hK) (by simp [builtin])
        · cases hc
      case max =>
        split at hc
        · rename_i ax az h1
          cases hc
          obtain ⟨a1, a2⟩ := args_rel h1 hE
          cases hl : args.toList with
          | nil => rw [hl] at h1; cases h1
          | cons x xs =>
            have hargs : args = (x :: xs).toArray := by rw [← Array.toArray_toList (xs := args), hl]
            subst hargs
            have v0 := a2 0 (by simp)
            refine hs (s := Builtin.max_ ats o.type (a.eval x :: xs.map a.eval).toArray) (max_sound (x := ax.ev e) (xs := az.map (AX.ev e)) hR (by simpa using v0) (by simpa using a1) (fun i hi => by simpa using a2 (i + 1) (by simpa using hi)) hK) (by simp [builtin])
        · cases hc
end
end Go.AM
namespace Go.AM
inductive AExit where
  | normal
  | exit (id : Nat)
  | goto (l : Nat)
  | ret
  | panic (v : AV)
structure GOp where
  op : AOp
  dst : Option Nat
  guard : Option (Nat × Bool)
abbrev AQ := AExit → Env → Store → Prop
def runOps (P : Program) (Q : AQ) : List GOp → Env → Store → Prop
  | [], e, σ => Q .normal e σ
  | ⟨o, d, none⟩ :: r, e, σ => o.run P e σ (fun v σ' => runOps P Q r (upd e d v) σ') (fun v σ' => Q (.panic v) e σ')
  | ⟨o, d, some (k, b)⟩ :: r, e, σ => match e k with
    | .bool t => (t = b → o.run P (upd e (some k) (.bool b)) σ (fun v σ' => runOps P Q r (upd (upd e (some k) (.bool b)) d v) σ') (fun v σ' => Q (.panic v) (upd e (some k) (.bool b)) σ')) ∧
        (t = !b → runOps P Q r (upd (upd e (some k) (.bool (!b))) d (.tup [])) σ)
    | .tup [] => runOps P Q r (upd e d (.tup [])) σ
    | _ => False
inductive ACode where
  | skip
  | region (ops : List GOp)
  | draw (ops : List GOp) (prs : List (AX × AX))
  | seq (a b : ACode)
  | cond (c : AX) (thn els : ACode)
  | block (id : Nat) (body : ACode)
  | loop (body : ACode)
  | exit (id : Nat)
  | ret
  | scope (l : Nat) (body rest : ACode)
  | label (l : Nat)
  | goto (l : Nat)
  | rng (f : AX) (nt : Nat) (ps : List Nat) (asg body : ACode)
  | stop
def ACode.rngs : ACode → Bool
  | .seq a b => a.rngs || b.rngs
  | .cond _ a b => a.rngs || b.rngs
  | .block _ a => a.rngs
  | .loop a => a.rngs
  | .scope _ a _ => a.rngs
  | .rng .. => true
  | _ => false
def Low (ac : ACode) (B : Nat → Prop) (w : World) : Prop := ac.rngs = true → ∀ D, w.heap.size ≤ D → B D
theorem Low.size {ac : ACode} {B : Nat → Prop} {w w' : World} (h : Low ac B w) (hs : w.heap.size ≤ w'.heap.size) : Low ac B w' := fun hr D hD => h hr D (Nat.le_trans hs hD)
theorem Low.sub {ac ad : ACode} {B : Nat → Prop} {w : World} (h : Low ac B w) (hs : ad.rngs = true → ac.rngs = true) : Low ad B w := fun hr => h (hs hr)
theorem Low.at (ac : ACode) (w : World) : Low ac (fun D => w.heap.size ≤ D) w := fun _ _ h => h
def thenQ (K : Env → Store → Prop) (Q : AQ) : AQ
  | .normal, e, σ => K e σ
  | x, e, σ => Q x e σ
def blockQ (id : Nat) (Q : AQ) : AQ
  | .exit i, e, σ => if i = id then Q .normal e σ else Q (.exit i) e σ
  | x, e, σ => Q x e σ
def apartAll : List (AX × AX) → Env → Prop
  | [], _ => True
  | (x, y) :: r, e => apartA (x.ev e) (y.ev e) ∧ apartAll r e
def condQ (prs : List (AX × AX)) (Q : AQ) : AQ
  | .normal, e, σ => apartAll prs e ∧ Q .normal e σ
  | x, e, σ => Q x e σ
theorem condQ_le {prs : List (AX × AX)} {Q : AQ} : ∀ {ex e σ}, condQ prs Q ex e σ → Q ex e σ := fun {ex e σ} h => by
  cases ex <;> first | exact h.2 | exact h
def LoopA (body : AQ → Env → Store → Prop) (Q : AQ) (e : Env) (σ : Store) : Prop :=
  ∃ (I : Nat → Env → Store → Prop), (∃ n, I n e σ) ∧ ∀ n e σ, I n e σ → body (thenQ (fun e' σ' => ∃ m, m < n ∧ I m e' σ') Q) e σ
def jumpQ (l : Nat) (J : Env → Store → Prop) (Q : AQ) : AQ
  | .goto l', e, σ => l' = l ∧ J e σ
  | x, e, σ => Q x e σ
def ScopeA (l : Nat) (body rest : AQ → Env → Store → Prop) (Q : AQ) (e : Env) (σ : Store) : Prop :=
  ∃ (J : Nat → Env → Store → Prop), body (jumpQ l (fun e σ => ∃ n, J n e σ) Q) e σ ∧ ∀ n e σ, J n e σ → rest (jumpQ l (fun e' σ' => ∃ m, m < n ∧ J m e' σ') Q) e σ
def putArgs : List Nat → List AV → Env → Env
  | p :: ps, a :: az, e => putArgs ps az (upd e (some p) a)
  | _, _, e => e
def asgQ (l : Nat) (o o' : AObj) (B : Env → Store → Prop) : AQ
  | .normal, e, σ => σ[l]? = some o ∧ B e (σ.set l o')
  | _, _, _ => False
def rndQ (l : Nat) (o : LoopState → Option Code → AObj) (R : Out → Store → Prop) : AQ
  | .normal, _, σ => σ[l]? = some (o .busy none) ∧ R (.ret (.bool true)) (σ.set l (o .ready none))
  | .ret, _, σ => σ[l]? = some (o .busy none) ∧ R (.ret (.bool false)) (σ.set l (o .done (some .ret)))
  | .exit i, _, σ => σ[l]? = some (o .busy none) ∧ R (.ret (.bool false)) (σ.set l (o .done (some (.exit i))))
  | .goto i, _, σ => σ[l]? = some (o .busy none) ∧ R (.ret (.bool false)) (σ.set l (o .done (some (.goto i))))
  | .panic _, _, _ => False
def endQ (l : Nat) (o : LoopState → Option Code → AObj) (Q : AQ) (e : Env) : Out → Store → Prop
  | .ret _, σ => ∃ st pe, σ[l]? = some (o st pe) ∧ st ≠ .busy ∧ match pe with
      | none => Q .normal e (σ.set l .dead)
      | some .ret => Q .ret e (σ.set l .dead)
      | some (.exit i) => Q (.exit i) e (σ.set l .dead)
      | some (.goto i) => Q (.goto i) e (σ.set l .dead)
      | _ => False
  | .panic v, σ => Q (.panic v) e σ
def RngA (P : Program) (nt : Nat) (ps : List Nat) (f : AV) (asg body : AQ → Env → Store → Prop) (Q : AQ) (e : Env) (σ : Store) : Prop :=
  match f with
  | .fn (.func n) first cap => ∀ o : LoopState → Option Code → AObj, (∀ st pe, ∃ ca cb, o st pe = .loop nt e ps.toArray ca cb st pe) →
      (∀ σ' args R, σ'[σ.length]? = some (o .ready none) → args.length = ps.length →
        asg (asgQ σ.length (o .ready none) (o .busy none) (body (rndQ σ.length o R))) (putArgs ps args e) σ' → YieldA P σ.length args σ' R) →
      CallA P n (first ++ [.yld σ.length] ++ cap) (σ ++ [o .ready none]) (endQ σ.length o Q e)
  | _ => False
def wpA (P : Program) : ACode → AQ → Env → Store → Prop
  | .skip, Q, e, σ => Q .normal e σ
  | .region ops, Q, e, σ => runOps P Q ops e σ
  | .draw ops prs, Q, e, σ => runOps P (condQ prs Q) ops e σ
  | .seq a b, Q, e, σ => wpA P a (thenQ (wpA P b Q) Q) e σ
  | .cond c a b, Q, e, σ => match c.ev e with
    | .bool t => (t = true → wpA P a Q e σ) ∧ (t = false → wpA P b Q e σ)
    | _ => False
  | .block id c, Q, e, σ => wpA P c (blockQ id Q) e σ
  | .loop c, Q, e, σ => LoopA (wpA P c) Q e σ
  | .exit id, Q, e, σ => Q (.exit id) e σ
  | .ret, Q, e, σ => Q .ret e σ
  | .scope l c r, Q, e, σ => ScopeA l (wpA P c) (wpA P r) Q e σ
  | .label _, Q, e, σ => Q .normal e σ
  | .goto l, Q, e, σ => Q (.goto l) e σ
  | .rng f nt ps asg body, Q, e, σ => RngA P nt ps (f.ev e) (wpA P asg) (wpA P body) Q e σ
  | .stop, _, _, _ => False
structure MarkOk (B : Nat → Prop) (σ : Store) (g : Ghost) (w : World) (ds : List Deferred) : Prop where
  nodup : ds.Nodup
  mark : ∀ d ∈ ds, ∃ D, d = { target := .collected D, args := #[] } ∧ B D ∧ w.heap[D]? = some (.deferred (some [])) ∧ ¬ Tracked σ g D ∧ ¬ g.imm D
theorem MarkOk.step {B : Nat → Prop} {σ σ' : Store} {g g' : Ghost} {w w' : World} {ds : List Deferred} (h : MarkOk B σ g w ds) (hev : Evo σ g w σ' g' w') : MarkOk B σ' g' w' ds := by
  refine ⟨h.nodup, fun d hd => ?_⟩
  obtain ⟨D, h1, h2, h3, h4, h5⟩ := h.mark d hd
  have hlt : D < w.heap.size := (Array.getElem?_eq_some_iff.1 h3).1
  exact ⟨D, h1, h2, (hev.frame D hlt h4).trans h3, fun ht => h4 (hev.trk D hlt ht), fun hi => (hev.immold D hlt hi).elim h5 h4⟩
def DefOk (X : List Deferred) (B : Nat → Prop) (σ : Store) (g : Ghost) (w : World) (ds : List Deferred) : Prop := ∃ ms, ds = ms ++ X ∧ MarkOk B σ g w ms
theorem DefOk.nil (X : List Deferred) (B : Nat → Prop) (σ : Store) (g : Ghost) (w : World) : DefOk X B σ g w X := ⟨[], rfl, List.nodup_nil, fun _ h => by cases h⟩
theorem DefOk.step {X : List Deferred} {B : Nat → Prop} {σ σ' : Store} {g g' : Ghost} {w w' : World} {ds : List Deferred} (h : DefOk X B σ g w ds) (hev : Evo σ g w σ' g' w') : DefOk X B σ' g' w' ds :=
  let ⟨ms, h1, h2⟩ := h; ⟨ms, h1, h2.step hev⟩
def QR (X : List Deferred) (nt : Nat) (B : Nat → Prop) (g : Ghost) (w : World) (σ : Store) (Q : AQ) (ex : Exit) (a : Act) (w' : World) : Prop :=
  ∃ g' e' σ', DefOk X B σ' g' w' a.defers ∧ Rel g' w' σ' ∧ EnvR nt g' w' e' a.tmps ∧ Evo σ g w σ' g' w' ∧
    match ex with
    | .normal => Q .normal e' σ'
    | .exit id => Q (.exit id) e' σ'
    | .goto l => Q (.goto l) e' σ'
    | .ret => Q .ret e' σ'
    | .panic chain => ∃ v av, chain = [{ v, recovered := false }] ∧ VR g' w' av v ∧ Q (.panic av) e' σ'
    | .outgrown => False
section
variable {P : Program}
theorem Oper.wp_mono2 {F : Fence} {wn : Nat} {o : Oper} {a : Act} {w : World} {K K' : Act → World → Prop} {Q Q' : Exit → Act → World → Prop} (h : ∀ a w, K a w → K' a w) (hq : ∀ e a w, Q e a w → Q' e a w)
    (hh : o.wpIn F wn P a w K Q) : o.wpIn F wn P a w K' Q' := by
  unfold Oper.wpIn at *
  refine ⟨hh.1, ?_⟩
  replace hh := hh.2
  generalize (o.semAt F.round a.eval).run P w = r at *
  cases r with
  | ok n w' =>
    cases n <;> simp only [Oper.uponIn] at hh ⊢ <;>
      first
        | exact h _ _ hh
        | exact ⟨hh.1, CallsIn.mono hh.2 (fun e w'' he => by
            cases e <;> first
              | exact h _ _ he
              | exact hq _ _ _ he
              | (obtain ⟨a0, w0, he⟩ := he; exact ⟨a0, w0, hq _ _ _ he⟩))⟩
        | exact ⟨hh.1, RoundIn.mono hh.2 (fun e w'' he => by
            cases e <;> first
              | exact h _ _ he
              | exact hq _ _ _ he
              | (obtain ⟨a0, w0, he⟩ := he; exact ⟨a0, w0, hq _ _ _ he⟩))⟩
        | exact ⟨hh.1, RowsIn.mono hh.2 (fun _ _ he => h _ _ he)⟩
  | halt x w' =>
    cases x <;> simp only [Oper.uponIn] at hh ⊢ <;> first
      | exact hq _ _ _ hh
      | exact hh
theorem put_defers (a : Act) (d : Option Tmp) (v : Value) : (a.put d v).defers = a.defers := by cases d <;> rfl
theorem wanted_of {nt : Nat} {g : Ghost} {w : World} {e : Env} {a : Act} {ops : Array Oper} {o : Oper} {k : Nat} {j : Nat} {b : Bool} (hE : EnvR nt g w e a.tmps) (hg : o.guard = some (j, b)) (hd : (ops[j]?).bind (·.dst) = some k) (hk : k < nt) :
    (∀ t, e k = .bool t → Region.wanted o (yielded ops a.tmps) = (t == b)) ∧ (e k = .tup [] → Region.wanted o (yielded ops a.tmps) = false) := by
  have hv := hE.rel k hk
  have hlt : k < a.tmps.size := by rw [hE.size]; exact hk
  have hget : a.tmps[k]? = some (a.tmps.getD k Go.undef) := by simp [hlt]
  constructor
  · intro t ht
    rw [ht] at hv
    generalize a.tmps.getD k Go.undef = v at hv hget
    cases hv
    simp only [Region.wanted, hg, yielded, hd, Option.bind_some, hget]
    cases t <;> cases b <;> rfl
  · intro ht
    rw [ht] at hv
    generalize a.tmps.getD k Go.undef = v at hv hget
    cases hv
    simp [Region.wanted, hg, yielded, hd, hget]
theorem EnvR.congr {nt : Nat} {g : Ghost} {w : World} {e : Env} {tmps : Array Value} (h : EnvR nt g w e tmps) {k : Nat} {x : AV} (hx : e k = x) : EnvR nt g w (upd e (some k) x) tmps :=
  ⟨h.size, fun t ht => by
    simp only [upd]
    split
    · rename_i e1; subst e1; subst hx; exact h.rel _ ht
    · exact h.rel t ht⟩
def compileOps (P : Program) (nt : Nat) (h : Hints) (dr : Bool) (all : Array Oper) : List Oper → Option (List GOp)
  | [] => some []
  | o :: r => match compileOp P nt h dr o, compileOps P nt h dr all r with
    | some ao, some gs => match o.guard with
      | none => some (⟨ao, o.dst, none⟩ :: gs)
      | some (j, b) => match (all[j]?).bind (·.dst) with
        | some k => if k < nt then some (⟨ao, o.dst, some (k, b)⟩ :: gs) else none
        | none => none
    | _, _ => none
theorem ops_sound {X : List Deferred} {ro : Option Nat} {wn : Nat} {nt : Nat} {h : Hints} {dr : Bool} {ops : Array Oper} {B : Nat → Prop} {Q : AQ} {g0 : Ghost} {w0 : World} {σ0 : Store} : ∀ (l : List Oper) (i : Nat) (gs : List GOp) (g : Ghost) (w : World) (σ : Store) (e : Env) (a : Act),
    compileOps P nt h dr ops l = some gs → (∀ j, j < l.length → ops[i + j]? = l[j]?) → runOps P Q gs e σ → Rel g w σ → EnvR nt g w e a.tmps → DefOk X B σ g w a.defers → Evo σ0 g0 w0 σ g w →
    Go.wpOpsIn (WF ro) wn P ops (QR X nt B g0 w0 σ0 Q) (List.range' i l.length) a w := by
  intro l
  induction l with
  | nil =>
    intro i gs g w σ e a hc _ hw hR hE hd hev
    cases hc
    exact ⟨g, e, σ, hd, hR, hE, hev, hw⟩
  | cons o l ih =>
    intro i gs g w σ e a hc hidx hw hR hE hd hev
    have h0 : ops[i]? = some o := by simpa using hidx 0 (by simp)
    have hidx' : ∀ j, j < l.length → ops[i + 1 + j]? = l[j]? := fun j hj => by
      have := hidx (j + 1) (by simpa using hj)
      simpa [Nat.add_assoc, Nat.add_comm 1 j] using this
    simp only [compileOps] at hc
    split at hc
    · rename_i ao gs' h1 h2
      have go : ∀ (e1 : Env), EnvR nt g w e1 a.tmps → ao.run P e1 σ (fun v σ' => runOps P Q gs' (upd e1 o.dst v) σ') (fun v σ' => Q (.panic v) e1 σ') →
          o.wpIn (WF ro) wn P a w (Go.wpOpsIn (WF ro) wn P ops (QR X nt B g0 w0 σ0 Q) (List.range' (i + 1) l.length)) (QR X nt B g0 w0 σ0 Q) := fun e1 hE1 hrun => by
        refine Oper.wp_mono2 ?_ ?_ (op_sound h1 hR hE1 hrun)
        · rintro a' w' ⟨v, g', av, σ', rfl, r1, r2, r3, r4⟩
          exact ih (i + 1) gs' g' w' σ' (upd e1 o.dst av) (a.put o.dst v) h2 hidx' r4 r1 ((hE1.mono r2.mono).put o.dst r3) (by rw [put_defers]; exact hd.step r2) (hev.trans r2)
        · rintro ex a' w' ⟨rfl, v, g', av, σ', rfl, r1, r2, r3, r4⟩
          exact ⟨g', e1, σ', hd.step r2, r1, hE1.mono r2.mono, hev.trans r2, v, av, rfl, r3, r4⟩
      have pass : ∀ (e1 : Env), EnvR nt g w e1 a.tmps → runOps P Q gs' (upd e1 o.dst (.tup [])) σ → Go.wpOpsIn (WF ro) wn P ops (QR X nt B g0 w0 σ0 Q) (List.range' (i + 1) l.length) (a.put o.dst Go.undef) w := fun e1 hE1 hrun =>
        ih (i + 1) gs' g w σ (upd e1 o.dst (.tup [])) (a.put o.dst Go.undef) h2 hidx' hrun hR (hE1.put o.dst (.tup [] #[] rfl (fun i hi => absurd hi (Nat.not_lt_zero _)))) (by rw [put_defers]; exact hd) hev
      rw [List.length_cons, List.range'_succ, wpOpsIn_cons]
      unfold wpOpIn
      simp only [h0]
      split at hc
      · rename_i hg
        cases hc
        have hwant : Region.wanted o (yielded ops a.tmps) = true := by simp [Region.wanted, hg]
        rw [if_pos hwant]
        exact go e hE hw
      · rename_i j b hg
        split at hc
        · rename_i k hk
          split at hc
          · rename_i hlt
            cases hc
            obtain ⟨w1, w2⟩ := wanted_of (ops := ops) hE hg hk hlt
            simp only [runOps] at hw
            split at hw
            · rename_i t ht
              have hwn := w1 t ht
              by_cases htb : t = b
              · subst htb
                rw [hwn, if_pos (by simp)]
                exact go _ (hE.congr ht) (hw.1 rfl)
              · have : t = !b := by cases t <;> cases b <;> simp_all
                rw [hwn, if_neg (by simpa using htb)]
                refine ⟨fun _ _ => trivial, pass _ (hE.congr ?_) (hw.2 this)⟩
                rw [ht, this]
            · rename_i ht
              rw [w2 ht, if_neg (by simp)]
              exact ⟨fun _ _ => trivial, pass e hE hw⟩
            · exact hw.elim
          · cases hc
        · cases hc
    · cases hc
end
end Go.AM
