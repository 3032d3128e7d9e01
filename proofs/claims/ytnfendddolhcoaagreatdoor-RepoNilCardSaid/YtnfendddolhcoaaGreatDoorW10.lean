/- Part of a proof: see Root. -/
import Derived.Test.YtnfendddolhcoaaGreatDoorW09
set_option linter.unnecessarySimpa false
set_option linter.unusedSectionVars false
set_option linter.unusedSimpArgs false
set_option linter.unusedVariables false
namespace Go.AM
def Nxt (g : Ghost) (w : World) (σ : Store) (a : Act) (dst : Option Tmp) (K : AV → Store → Prop) (a' : Act) (w' : World) : Prop :=
  ∃ v g' av σ', a' = a.put dst v ∧ Rel g' w' σ' ∧ Evo σ g w σ' g' w' ∧ VR g' w' av v ∧ K av σ'
def Pnc (g : Ghost) (w : World) (σ : Store) (a : Act) (Kp : AV → Store → Prop) (ex : Exit) (a' : Act) (w' : World) : Prop :=
  a' = a ∧ ∃ v g' av σ', ex = .panic [{ v, recovered := false }] ∧ Rel g' w' σ' ∧ Evo σ g w σ' g' w' ∧ VR g' w' av v ∧ Kp av σ'
abbrev WF (ro : Option Nat) : Fence := { Fence.wide with round := ro }
theorem wf_room (ro : Option Nat) (n : Nat) : (WF ro).room n := fun _ h => by simp [WF, Fence.wide] at h
theorem callsWF {ro : Option Nat} {n : Nat} {P : Program} {f : FuncId} {args : Array Value} {w : World} {R : Ending → World → Prop} : CallsIn (WF ro) n P f args w R ↔ Calls P f args w R := callsIn_wide (n := n)
def NoDef (o : Oper) : Prop := ∀ c, o.op ≠ .defer c
section
variable {P : Program} {g : Ghost} {w : World} {σ : Store} {K Kp : AV → Store → Prop} {ro : Option Nat} {wn : Nat}
theorem wpIn_of_run {o : Oper} {a : Act} {next : Act → World → Prop} {Q : Exit → Act → World → Prop} (hnd : NoDef o) (h : o.uponIn (WF ro) wn P a next Q ((execOp a.eval o).run P w)) : o.wpIn (WF ro) wn P a w next Q := by
  refine ⟨fun _ _ => trivial, ?_⟩
  rw [Oper.semAt_eq _ _ _ hnd]; exact h
theorem wp_of_value {o : Oper} {a : Act} {v : Value} {w' : World} {next : Act → World → Prop} {Q : Exit → Act → World → Prop} (hnd : NoDef o) (h : (execOp a.eval o).run P w = .ok (.value v) w') (hn : next (a.put o.dst v) w') : o.wpIn (WF ro) wn P a w next Q := by
  refine wpIn_of_run hnd ?_; rw [h]; exact hn
theorem wp_of_RunS {o : Oper} {a : Act} {s : Sem Value} {Q : Exit → Act → World → Prop} (hnd : NoDef o) (h : RunS P s g w σ K) (hs : execOp a.eval o = (do pure (.value (← s)) : Sem Next)) : o.wpIn (WF ro) wn P a w (Nxt g w σ a o.dst K) Q := by
  obtain ⟨v, w', g', av, σ', h1, h2, h3, h4, h5⟩ := h
  refine wp_of_value hnd (v := v) (w' := w') ?_ ⟨v, g', av, σ', rfl, h2, h3, h4, h5⟩
  rw [hs]; simp [h1]
theorem wp_of_val {o : Oper} {a : Act} {v : Value} {av : AV} {Q : Exit → Act → World → Prop} (hnd : NoDef o) (hR : Rel g w σ) (hs : (execOp a.eval o).run P w = .ok (.value v) w) (hv : VR g w av v) (hk : K av σ) : o.wpIn (WF ro) wn P a w (Nxt g w σ a o.dst K) Q :=
  wp_of_value hnd hs ⟨v, g, av, σ, rfl, hR, .refl _ _ _, hv, hk⟩
theorem boundR_of {nt : Nat} {x : Option Operand} {ax : Option AX} {e : Env} {a : Act} (h : cXo nt x = some ax) (hE : EnvR nt g w e a.tmps) : BoundR g w (ax.map (AX.ev e)) (x.map a.eval) := by
  cases x with
  | none => cases h; trivial
  | some x =>
    simp only [cXo, Option.map_eq_some_iff] at h
    obtain ⟨b, h1, rfl⟩ := h
    exact cX_rel h1 hE
theorem args_rel {nt : Nat} {xs : Array Operand} {az : List AX} {e : Env} {a : Act} (h : cXs nt xs.toList = some az) (hE : EnvR nt g w e a.tmps) :
    (az.map (AX.ev e)).length = (xs.map a.eval).size ∧ ∀ i, i < (az.map (AX.ev e)).length → VR g w ((az.map (AX.ev e)).getD i .undef) ((xs.map a.eval).getD i Go.undef) := by
  obtain ⟨h1, h2⟩ := cXs_rel h hE
  refine ⟨by simp [h1], fun i hi => ?_⟩
  have := h2 i (by simpa using hi)
  simpa using this
theorem append_rel {az bs : List AV} {us vs : Array Value} (h1 : az.length = us.size) (h2 : ∀ i, i < az.length → VR g w (az.getD i .undef) (us.getD i Go.undef)) (h3 : bs.length = vs.size) (h4 : ∀ i, i < bs.length → VR g w (bs.getD i .undef) (vs.getD i Go.undef)) :
    (az ++ bs).length = (us ++ vs).size ∧ ∀ i, i < (az ++ bs).length → VR g w ((az ++ bs).getD i .undef) ((us ++ vs).getD i Go.undef) := by
  refine ⟨by simp [h1, h3], fun i hi => ?_⟩
  simp only [List.length_append] at hi
  by_cases h : i < az.length
  · have := h2 i h
    have h5 : i < us.size := by omega
    simpa [List.getElem?_append_left h, Array.getElem?_append_left h5] using this
  · obtain ⟨j, rfl⟩ : ∃ j, i = az.length + j := ⟨i - az.length, by omega⟩
    have := h4 j (by omega)
    rw [h1]
    have e1 : (az ++ bs).getD (us.size + j) .undef = bs.getD j .undef := by rw [← h1]; simp [List.getElem?_append_right]
    have e2 : (us ++ vs).getD (us.size + j) Go.undef = vs.getD j Go.undef := by
      rw [Array.getD_eq_getD_getElem?, Array.getElem?_append_right (by omega)]; simp
    rw [e1, e2]; exact this
theorem meth_call {f : AX} {args : List AX} {e : Env} {K Kp : AV → Store → Prop} (h : (AOp.meth f args).run P e σ K Kp) : (AOp.call false f args).run P e σ K Kp := by
  simp only [AOp.run] at *
  split at h
  · rename_i n hf
    unfold methA at h
    split at h
    · rename_i a r ha
      obtain ⟨l, ob, ob', r, _, _, _, h4, h5⟩ := h
      simp only [hf, Bool.false_eq_true, if_false, List.nil_append, List.append_nil]
      exact h4.mono fun o s ⟨e1, e2⟩ => by subst e1; subst e2; exact h5
    · exact h.elim
  · exact h.elim
theorem callOp_key {m q : Bool} {f : AX} {args : List AX} {e : Env} {K Kp : AV → Store → Prop} (h : (callOp m q f args).run P e σ K Kp) : ∃ q, (AOp.call q f args).run P e σ K Kp := by
  cases m
  · exact ⟨q, h⟩
  · exact ⟨false, meth_call h⟩
theorem cwOp_key {l : List (Nat × El)} {m q : Bool} {f : AX} {args : List AX} {e : Env} {K Kp : AV → Store → Prop} (h : (cwOp l m q f args).run P e σ K Kp) : ∃ q, (AOp.call q f args).run P e σ K Kp := by
  unfold cwOp at h
  split at h
  · rename_i p l' n
    refine ⟨false, ?_⟩
    have hk : ∃ r σ2, CallA P n ((args.map (AX.ev e))) σ (fun o σ' => o = .ret r ∧ σ' = σ2) ∧ K r σ2 := by
      replace h : XOp.run P (.cw n args.length _) (args.map (AX.ev e)) σ K Kp := h
      generalize hz : args.map (AX.ev e) = zs at h
      cases zs with
      | nil => exact h.elim
      | cons z zs =>
        obtain ⟨r, s2, h1, _, h3⟩ := h
        rw [← hz, List.take_of_length_le (by simp), hz] at h1
        exact ⟨r, s2, h1, h3⟩
    obtain ⟨r, s2, h1, h3⟩ := hk
    simp only [AOp.run, AX.ev, Bool.false_eq_true, if_false, List.nil_append, List.append_nil]
    exact h1.mono fun o s ⟨e1, e2⟩ => by subst e1; subst e2; exact h3
  · exact callOp_key h
theorem pcOp_key {p : Bool} {l : List (Nat × El)} {m q : Bool} {f : AX} {args : List AX} {e : Env} {K Kp : AV → Store → Prop} (h : (pcOp p l m q f args).run P e σ K Kp) : ∃ q, (AOp.call q f args).run P e σ K Kp := by
  unfold pcOp at h
  split at h
  · rename_i n
    refine ⟨false, ?_⟩
    obtain ⟨o, h1, h2⟩ : ∃ o, (∀ s, CallA P n (args.map (AX.ev e)) s fun o' s' => o' = o ∧ s' = s) ∧ pcK (fun r => K r σ) (fun v => ∀ s, Kp v s) o := h
    simp only [AOp.run, AX.ev, Bool.false_eq_true, if_false, List.nil_append, List.append_nil]
    refine (h1 σ).mono fun o' s ⟨e1, e2⟩ => ?_
    subst e1; subst e2
    cases o' with
    | ret r => exact h2
    | panic v => exact h2 _
  · exact cwOp_key h
theorem call_wp {o : Oper} {a : Act} {f : FuncId} {vs : Array Value} {args : List AV} (hnd : NoDef o) (hex : (execOp a.eval o).run P w = .ok (.enter f vs) w) (hR : Rel g w σ) (hl : args.length = vs.size)
    (h : ∀ i, i < args.length → VR g w (args.getD i .undef) (vs.getD i Go.undef)) (hc : CallA P f args σ fun
      | .ret r, σ' => K r σ'
      | .panic r, σ' => Kp r σ') : o.wpIn (WF ro) wn P a w (Nxt g w σ a o.dst K) (Pnc g w σ a Kp) := by
  refine wpIn_of_run hnd ?_
  rw [hex]
  refine ⟨fun h => by simp [WF, Fence.wide] at h, callsWF.2 ((hc.2 g w vs hR hl h).mono ?_)⟩
  rintro e w' ⟨out, g', σ', h1, h2, h3, h4⟩
  cases out with
  | ret r =>
    cases e with
    | returned v => exact ⟨v, g', r, σ', rfl, h1, h2, h3, h4⟩
    | panicked c => exact h3.elim
    | outgrown => exact h3.elim
  | panic r =>
    cases e with
    | returned v => exact h3.elim
    | panicked c => obtain ⟨v, rfl, h3⟩ := h3; exact ⟨rfl, v, g', r, σ', rfl, h1, h2, h3, h4⟩
    | outgrown => exact h3.elim
theorem yield_wp {o : Oper} {a : Act} {l b : Nat} {vs : Array Value} {args : List AV} (hnd : NoDef o) (hex : (execOp a.eval o).run P w = (Instr.yield b vs).run P w) (hR : Rel g w σ) (hb : g.ver l = 0 → g.base l = some b) (hl : args.length = vs.size)
    (h : ∀ i, i < args.length → VR g w (args.getD i .undef) (vs.getD i Go.undef)) (hc : YieldA P l args σ fun
      | .ret r, σ' => K r σ'
      | .panic r, σ' => Kp r σ') : o.wpIn (WF ro) wn P a w (Nxt g w σ a o.dst K) (Pnc g w σ a Kp) := by
  refine wpIn_of_run hnd ?_
  obtain ⟨⟨nt, e, ps, ca, cb, st, pe, ho⟩, hc⟩ := hc
  have hv0 := (hR.ok l _ ho).1
  obtain ⟨fn, tmps, ca, cb, r1, r2⟩ := hc g w vs b hR (hb hv0) hl h
  rw [hex, r1]
  refine ⟨fun h => by simp [WF, Fence.wide] at h, ?_⟩
  have r3 : RoundIn (WF ro) (wn - 1) P b fn tmps ca cb w _ := ⟨trivial, fun c cs _ => r2.2 c cs (room_wide _)⟩
  refine r3.mono ?_
  rintro e w' ⟨out, g', σ', h1, h2, h3, h4⟩
  cases out with
  | ret r =>
    cases e with
    | returned v => exact ⟨v, g', r, σ', rfl, h1, h2, h3, h4⟩
    | panicked c => exact h3.elim
    | outgrown => exact h3.elim
  | panic r =>
    cases e with
    | returned v => exact h3.elim
    | panicked c => obtain ⟨v, rfl, h3⟩ := h3; exact ⟨rfl, v, g', r, σ', rfl, h1, h2, h3, h4⟩
    | outgrown => exact h3.elim
theorem keyD_of {d : TypeDesc} {kd : Option IntKind} (h : keyKind d = some kd) : keyD kd d = true := by
  cases d <;> simp [keyKind] at h <;> subst h <;> simp [keyD]
theorem mapset_wp {o : Oper} {a : Act} {t key elem : TypeId} {d : TypeDesc} {kd : Option IntKind} {x k y : AV} {m v u : Value} (hnd : NoDef o) (hR : Rel g w σ) (ht : P.underlying t = some (.map key elem)) (hkey : P.underlying key = some d) (hd : keyD kd d = true)
    (hx : VR g w x m) (hv : VR g w k v) (hu : VR g w y u) (hex : execOp a.eval o = (do Instr.mapUpdate t m v u; Pure.pure .skip : Sem Next))
    (hK : XOp.run P (.mapset kd) [x, k, y] σ K Kp) : o.wpIn (WF ro) wn P a w (Nxt g w σ a o.dst K) (Pnc g w σ a Kp) := by
  unfold XOp.run at hK
  split at hK <;> (try (rename_i h1 h2; cases h1; done)) <;> (try (rename_i h1; cases h1; done)) <;> (try exact hK.elim)
  rename_i l k' v' h1 h2
  cases h1
  cases h2
  obtain ⟨hk, hK⟩ := hK
  split at hK
  · rename_i es hes
    split at hK
    · rename_i es' hs
      obtain ⟨w', r1, r2, r3⟩ := mapset_sound hR ht hkey hd hx hv hu hk hes hs
      refine wpIn_of_run hnd ?_
      have : (execOp a.eval o).run P w = .ok .skip w' := by rw [hex]; simp [r1]
      rw [this]
      exact ⟨.tuple #[], g, .tup [], _, rfl, r2, r3, .tup [] #[] rfl (fun i hi => absurd hi (Nat.not_lt_zero _)), hK⟩
    · exact hK.elim
  · exact hK.elim
theorem ests_wp {o : Oper} {a : Act} {t : TypeId} {x s y : AV} {m v u : Value} (hnd : NoDef o) (hR : Rel g w σ)
    (hx : VR g w x m) (hv : VR g w s v) (hu : VR g w y u) (hex : execOp a.eval o = (do Instr.entryStore t m v u; Pure.pure .skip : Sem Next))
    (hK : XOp.run P .ests [x, s, y] σ K Kp) : o.wpIn (WF ro) wn P a w (Nxt g w σ a o.dst K) (Pnc g w σ a Kp) := by
  obtain ⟨w', σ', r1, r2, r3, r4⟩ := ests_sound (P := P) (t := t) hR hx hv hu (show estsA σ x s y fun σ' => K (.tup []) σ' from hK)
  refine wpIn_of_run hnd ?_
  have : (execOp a.eval o).run P w = .ok .skip w' := by rw [hex]; simp [r1]
  rw [this]
  exact ⟨.tuple #[], g, .tup [], _, rfl, r2, r3, .tup [] #[] rfl (fun i hi => absurd hi (Nat.not_lt_zero _)), r4⟩
theorem callFunc_run {f : FuncId} (h : Has P f) (args : Array Value) (w : World) : (callFunc f args).run P w = .ok (.enter f args) w := by
  obtain ⟨fn, h1, h2, h3⟩ := h
  have h4 : fn.body.isNone = false := by cases hb : fn.body <;> simp_all
  simp only [callFunc, Sem.run_bind, run_program, Result.andThen_ok, h1, h3, h4, Bool.false_eq_true, if_false, Sem.run_pure]
set_option maxHeartbeats 1000000 in
theorem inv_wp {o : Oper} {a : Act} {x : AV} {r : Value} {az : List AV} {vs : Array Value} {name : String} (hnd : NoDef o) (hR : Rel g w σ) (hx : VR g w x r)
    (ha : az.length = vs.size ∧ ∀ i, i < az.length → VR g w (az.getD i .undef) (vs.getD i Go.undef)) (hex : execOp a.eval o = callMethod r name vs)
    (hK : XOp.run P (.inv name) (x :: az) σ K Kp) : o.wpIn (WF ro) wn P a w (Nxt g w σ a o.dst K) (Pnc g w σ a Kp) := by
  unfold XOp.run at hK
  split at hK <;> (try (rename_i h1 h2; cases h1; done)) <;> (try (rename_i h1; cases h1; done)) <;> (try exact hK.elim)
  rename_i nm t v l h1 h2
  cases h1
  cases h2
  cases hx
  rename_i v' hv
  split at hK
  · rename_i f hf
    have hex' : (execOp a.eval o).run P w = .ok (.enter f (#[v'] ++ vs)) w := by
      rw [hex]
      have := method_run (w := w) (v := v') hf (P.types.size + 99)
      have e1 : Made.depth = 99 + 1 := rfl
      have e0 : (program).run P w = .ok P w := rfl
      simp only [callMethod, Sem.run_bind, e0, Result.andThen_ok, e1, ← Nat.add_assoc, this, callFunc_run hK.1]
    obtain ⟨a1, a2⟩ := ha
    obtain ⟨c1, c2⟩ := append_rel (g := g) (w := w) (az := [v]) (us := #[v']) rfl (fun i hi => by
      have : i = 0 := by simpa using hi
      subst this
      simpa using hv) a1 a2
    exact call_wp hnd hex' hR c1 c2 hK
  · exact hK.elim
theorem op_sound {nt : Nat} {h : Hints} {dr : Bool} {o : Oper} {ao : AOp} {e : Env} {a : Act} (hc : compileOp P nt h dr o = some ao) (hR : Rel g w σ) (hE : EnvR nt g w e a.tmps) (hK : ao.run P e σ K Kp) :
    o.wpIn (WF ro) wn P a w (Nxt g w σ a o.dst K) (Pnc g w σ a Kp) := by
  have hnd : NoDef o := fun c hop => by simp [compileOp, hop] at hc
  unfold compileOp at hc
  cases hop : o.op <;> simp only [hop] at hc <;> (try (cases hc; done))
  case move x =>
    simp only [Option.map_eq_some_iff] at hc
    obtain ⟨ax, h1, rfl⟩ := hc
    by_cases hb : (!dr && hasD o.dst h.loud) = true
    · rw [if_pos hb] at hK
      exact wp_of_RunS hnd (frz_sound (P := P) hR (cX_rel h1 hE) hK) (by simp [execOp, hop])
    · rw [if_neg hb] at hK
      exact wp_of_val hnd hR (by simp [execOp, hop]) (cX_rel h1 hE) hK
  case assign x =>
    have mv : ∀ ax, cX nt x = some ax → AOp.run P (.mv ax) e σ K Kp → o.wpIn (WF ro) wn P a w (Nxt g w σ a o.dst K) (Pnc g w σ a Kp) := fun ax h1 hK =>
      wp_of_val hnd hR (by simp [execOp, hop]) (cX_rel h1 hE) hK
    split at hc
    · rename_i el hel
      split at hc
      · rename_i hnil
        cases hc
        have hx : a.eval x = .slice none 0 0 := by
          cases x with
          | const v =>
            cases v with
            | slice p l c =>
              cases p with
              | none => simp [isNilSlice] at hnil; obtain ⟨rfl, rfl⟩ := hnil; rfl
              | some p => simp [isNilSlice] at hnil
            | _ => simp [isNilSlice] at hnil
          | _ => simp [isNilSlice] at hnil
        obtain ⟨r1, r2⟩ := hR.mkvec el
        refine wp_of_value hnd (v := .slice none 0 0) (w' := w) (by simp [execOp, hop, hx]) ⟨_, _, _, _, rfl, r1, r2, .own _ _ _ _ _ _ ⟨by simp [Ghost.push, hR.len], Nat.zero_le _, _, _, rfl, fun _ => ⟨by omega, by simp [Ghost.push, hR.len], fun h => by simp [Ghost.push, hR.len] at h⟩⟩, hK⟩
      · simp only [Option.map_eq_some_iff] at hc
        obtain ⟨ax, h1, rfl⟩ := hc
        exact mv ax h1 hK
    · simp only [Option.map_eq_some_iff] at hc
      obtain ⟨ax, h1, rfl⟩ := hc
      exact mv ax h1 hK
  case pick c x y =>
    split at hc
    · rename_i ac ax ay h1 h2 h3
      cases hc
      have hv := cX_rel h1 hE
      simp only [AOp.run] at hK
      generalize AX.ev e ac = z at hv hK
      generalize hev : a.eval c = cv at hv
      cases hv <;> simp only at hK
      rename_i t
      refine wp_of_val hnd (v := if t then a.eval x else a.eval y) hR (by simp [execOp, hop, hev, asBool]) ?_ hK
      cases t
      · exact cX_rel h3 hE
      · exact cX_rel h2 hE
    · cases hc
  case alloc t =>
    split at hc
    · rename_i z hz
      split at hc
      · simp only [Option.some.injEq] at hc
        split at hc
        · cases hc
          simp only [AOp.run] at hK
          split at hK
          · split at hK
            · rename_i hn
              exact wp_of_RunS hnd (allocAt_sound (tyHint_or _ _) hR hn hz hK) (by simp [execOp, hop])
            · exact hK.elim
          · exact hK.elim
        · cases hc
          exact wp_of_RunS hnd (alloc_sound (tyHint_or _ _) hR hz hK) (by simp [execOp, hop])
      · cases hc
    · cases hc
  case box t x =>
    simp only [Option.map_eq_some_iff] at hc
    obtain ⟨ax, h1, h2⟩ := hc
    split at h2 <;> subst h2 <;> simp only [AOp.run] at hK
    · exact wp_of_RunS hnd (boxT_sound (t := t) hR (cX_rel h1 hE) hK.1 hK.2) (by simp [execOp, hop])
    · exact wp_of_RunS hnd (box_sound (t := t) hR (cX_rel h1 hE) hK.1 hK.2) (by simp [execOp, hop])
  case build t parts =>
    split at hc
    · rename_i z fs hz hu
      split at hc
      · rename_i hh
        simp only [Bool.and_eq_true] at hh
        simp only [Option.map_eq_some_iff] at hc
        obtain ⟨ps, h1, rfl⟩ := hc
        exact wp_of_RunS hnd (build_struct_sound hR hE hz hh.2 hu hh.1 h1 hK) (by simp [execOp, hop])
      · cases hc
    · rename_i z n el hz hu
      split at hc
      · rename_i hh
        simp only [Bool.and_eq_true, Option.isSome_iff_exists] at hh
        obtain ⟨⟨fi, hi⟩, _⟩ := hh
        simp only [Option.map_eq_some_iff] at hc
        obtain ⟨ps, h1, rfl⟩ := hc
        exact wp_of_RunS hnd (build_array_sound hR hE hz hu hi h1 hK) (by simp [execOp, hop])
      · cases hc
    · cases hc
  case buildSlice t n parts =>
    split at hc
    · rename_i el hu
      split at hc
      · rename_i el' z he hz
        split at hc
        · rename_i hh
          simp only [Bool.and_eq_true, decide_eq_true_eq] at hh
          simp only [Option.map_eq_some_iff] at hc
          obtain ⟨ps, h1, rfl⟩ := hc
          exact wp_of_RunS hnd (bslice_sound hR hE hu he hz hh.1 hh.2 h1 hK) (by simp [execOp, hop])
        · cases hc
      · cases hc
    · cases hc
  case load t x =>
    split at hc
    · rename_i ag i ax hA hi h1
      split at hc
      · rename_i hh
        cases hc
        exact wp_of_RunS hnd (load_sound hR hA hi (fun e => by simpa [e] using hh) (cX_rel h1 hE) hK) (by simp [execOp, hop])
      · cases hc
    · cases hc
  case store t x y =>
    split at hc
    · rename_i i ax ay hi h1 h2
      cases hc
      obtain ⟨w', g', σ', r1, r2, r3, r4⟩ := store_sound (P := P) hR hi (cX_rel h1 hE) (cX_rel h2 hE) hK
      refine wpIn_of_run hnd ?_
      have : (execOp a.eval o).run P w = .ok .skip w' := by simp [execOp, hop, r1]
      rw [this]
      exact ⟨_, g', .tup [], σ', rfl, r2, r3, .tup [] #[] rfl (fun i hi => absurd hi (Nat.not_lt_zero _)), r4⟩
    · cases hc
  case nilCheck x =>
    simp only [Option.map_eq_some_iff] at hc
    obtain ⟨ax, h1, rfl⟩ := hc
    obtain ⟨v, w', g', av, σ', r1, r2, r3, r4, r5⟩ := nilck_sound (P := P) (K := K) hop rfl hR (cX_rel h1 hE) hK
    exact wp_of_value hnd r1 ⟨v, g', av, σ', rfl, r2, r3, r4, r5⟩
  case binOp op t x y yt =>
    have hs : ∀ {K : AV → Store → Prop}, RunS P (do eqGuard op t x y (a.eval x) (a.eval y); binOp op t (a.eval x) (a.eval y)) g w σ K → o.wpIn (WF ro) wn P a w (Nxt g w σ a o.dst K) (Pnc g w σ a Kp) := fun hh =>
      wp_of_RunS hnd hh (by simp [execOp, hop])
    split at hc
    · rename_i ax ay h1 h2
      have v1 := cX_rel h1 hE
      have v2 := cX_rel h2 hE
      split at hc
      · cases hc; exact hs (bing_sound hR v1 v2 hK)
      · cases hc; exact hs (bing_sound hR v1 v2 hK)
      · rename_i te hu
        split at hc
        · rename_i hn
          have hy : a.eval y = .slice none 0 0 := by
            unfold isNilSlice at hn
            split at hn
            · rename_i l c
              simp only [Bool.and_eq_true, beq_iff_eq] at hn
              rw [hn.1, hn.2]; rfl
            · cases hn
          rw [hy] at hs
          split at hc
          · split at hc
            · cases hc; exact hs (nilU_sound (op := .eql) (.inl rfl) hR hu v1 hK)
            · cases hc; exact hs (nilS_sound (op := .eql) (.inl rfl) hR hu v1 hK)
          · split at hc
            · cases hc; exact hs (nilU_sound (op := .neq) (.inr rfl) hR hu v1 hK)
            · cases hc; exact hs (nilS_sound (op := .neq) (.inr rfl) hR hu v1 hK)
          · cases hc
        · cases hc
      · rename_i d _ _ _ hu
        split at hc
        · rename_i k hk
          split at hc
          · split at hc
            · rename_i te _ hpt
              split at hc
              · rename_i i _ hi
                cases hc
                exact hs (eqp_sound (op := .eql) (.inl ⟨rfl, rfl⟩) hR hu hi v1 v2 hK)
              · rename_i i _ hi
                cases hc
                exact hs (eqp_sound (op := .neq) (.inr ⟨rfl, rfl⟩) hR hu hi v1 v2 hK)
              · cases hc
            · cases hc
          split at hc
          · rename_i hn
            simp only [Bool.or_eq_true] at hn
            split at hc
            · cases hc
              refine hs (eqnil_sound (op := .eql) (.inl rfl) hR hu hk hn v1 v2 ?_)
              simp only [AOp.run] at hK
              generalize nilEq k (AX.ev e ax) (AX.ev e ay) = r at hK ⊢
              cases r <;> exact hK
            · cases hc
              refine hs (eqnil_sound (op := .neq) (.inr rfl) hR hu hk hn v1 v2 ?_)
              simp only [AOp.run] at hK
              generalize nilEq k (AX.ev e ax) (AX.ev e ay) = r at hK ⊢
              cases r <;> exact hK
            · cases hc
          · cases hc
        · split at hc
          · rename_i ks ag i hf hA hi
            split at hc
            · rename_i hh
              simp only [Bool.and_eq_true, beq_iff_eq, Bool.or_eq_true, Bool.not_eq_true'] at hh
              have hg : ag = true → P.eqGuardType P.depth t = false := fun e => by
                rcases hh.2 with h | h
                · rw [e] at h; cases h
                · exact h
              split at hc
              · cases hc
                exact hs (eqf_sound (op := .eql) (.inl rfl) hR hf hA hi hh.1 hg v1 v2 hK)
              · cases hc
                exact hs (eqf_sound (op := .neq) (.inr rfl) hR hf hA hi hh.1 hg v1 v2 hK)
              · cases hc
            · cases hc
          · cases hc
      · cases hc
    · cases hc
  case unOp op t x =>
    simp only [Option.map_eq_some_iff] at hc
    obtain ⟨ax, h1, rfl⟩ := hc
    exact wp_of_RunS hnd (un_sound hR (cX_rel h1 hE) hK) (by simp [execOp, hop])
  case convert s d x =>
    have hs : RunS P (convert s d (a.eval x)) g w σ K → o.wpIn (WF ro) wn P a w (Nxt g w σ a o.dst K) (Pnc g w σ a Kp) := fun hh => wp_of_RunS hnd hh (by simp [execOp, hop])
    split at hc
    · rename_i k' k ax hs1 hd1 h1
      cases hc
      exact hs (cint_sound hR hs1 hd1 (cX_rel h1 hE) hK)
    · rename_i ax hs1 hd1 h1
      cases hc
      have v1 := cX_rel h1 hE
      simp only [AOp.run] at hK
      generalize AX.ev e ax = z at v1 hK
      cases z <;> simp only at hK
      exact hs (cid_sound hR hs1 hd1 v1 ⟨_, rfl⟩ hK)
    · rename_i el ax hs1 hd1 h1
      split at hc
      · rename_i i he hi
        split at hc
        · cases hc
          exact hs (s2b_sound (fi := i) hR hs1 hd1 he (cX_rel h1 hE) hK)
        · cases hc
      · cases hc
    · rename_i el ax hs1 hd1 h1
      split at hc
      · rename_i i he hi
        split at hc
        · cases hc
          have v1 := cX_rel h1 hE
          obtain ⟨hn, hK⟩ := hK
          refine hs (b2s_sound hR hs1 hd1 he v1 hK ?_)
          generalize AX.ev e ax = z at v1 hn hK
          generalize a.eval x = xv at v1
          cases v1 <;> simp only [listA] at hK hn
          · exact ⟨_, _, _, rfl⟩
          · exact ⟨_, _, _, rfl⟩
          · exact ⟨_, _, _, rfl⟩
          · rename_i h; obtain ⟨_, _, A, cap, rfl, _⟩ := h; exact ⟨_, _, _, rfl⟩
          · exact ⟨_, _, _, rfl⟩
        · cases hc
      · cases hc
    · rename_i t ax hs1 hd1 h1
      split at hc
      · rename_i i hi
        split at hc
        · cases hc
        · rename_i h0
          cases hc
          exact hs (p2u_sound hR hs1 hd1 hi (by simpa using h0) (cX_rel h1 hE) hK)
      · cases hc
    · rename_i t ax hs1 hd1 h1
      split at hc
      · rename_i i hi
        cases hc
        exact hs (u2p_sound hR hs1 hd1 hi (cX_rel h1 hE) hK)
      · cases hc
    · cases hc
  case makeInterface t x =>
    split at hc
    · cases hc
    · cases hc
    · rename_i d h1 h2
      simp only [Option.map_eq_some_iff] at hc
      obtain ⟨ax, h3, rfl⟩ := hc
      cases hu : P.underlying t with
      | none => exact absurd hu h2
      | some d => exact wp_of_RunS hnd (mkifc_sound hR hu (fun ms e => h1 ms (by rw [hu, e])) (cX_rel h3 hE) hK) (by simp [execOp, hop])
  case makeFunc fn first cap =>
    split at hc
    · rename_i az bs h1 h2
      cases hc
      obtain ⟨a1, a2⟩ := args_rel h1 hE
      obtain ⟨b1, b2⟩ := args_rel h2 hE
      exact wp_of_val hnd (v := .func fn (first.map a.eval) (cap.map a.eval)) hR (by simp [execOp, hop, Instr.makeFunc]) (.fn fn _ _ _ _ a1 b1 a2 b2) hK
    · cases hc
  case slice t x lo hi mx =>
    split at hc
    · rename_i ax al ah am h1 h2 h3 h4
      have v1 := cX_rel h1 hE
      have hm : am = none → mx = none := fun e => by
        cases mx with
        | none => rfl
        | some m => simp only [cXo, Option.map_eq_some_iff] at h4; obtain ⟨b, _, rfl⟩ := h4; cases e
      split at hc
      · rename_i hu
        split at hc
        · rename_i hn
          cases hc
          have : mx = none := hm (by simpa using hn)
          subst this
          exact wp_of_RunS hnd (slS_sound hR hu v1 (boundR_of h2 hE) (boundR_of h3 hE) hK) (by simp [execOp, hop])
        · cases hc
      · rename_i el hu
        split at hc
        · simp only [Option.map_eq_some_iff] at hc
          obtain ⟨el', he, rfl⟩ := hc
          have : mx = none := hm rfl
          subst this
          refine wp_of_RunS hnd (slL_sound hR hu he v1 (boundR_of h2 hE) (boundR_of h3 hE) ?_) (by simp [execOp, hop])
          simp only [AOp.run] at hK
          clear v1
          generalize AX.ev e ax = z at hK ⊢
          cases z <;> exact hK
        · rename_i bm bh
          simp only [Option.map_eq_some_iff] at hc
          obtain ⟨el', he, rfl⟩ := hc
          have b3 := boundR_of h3 hE
          have b4 := boundR_of h4 hE
          cases hi with
          | none => cases h3
          | some hi =>
            cases mx with
            | none => cases h4
            | some mx =>
              unfold sl3Op at hK
              split at hK
              · refine wp_of_RunS hnd (sl3p_sound (vl := lo.map a.eval) (vh := a.eval hi) (vm := a.eval mx) (lo := al.map (AX.ev e)) hR hu he v1 (boundR_of h2 hE) b3 b4 ?_) (by simp [execOp, hop])
                clear h2 b3 b4 v1
                cases al with
                | none => exact hK
                | some al => exact hK
              · refine wp_of_RunS hnd (sl3_sound (vl := lo.map a.eval) (vh := a.eval hi) (vm := a.eval mx) (lo := al.map (AX.ev e)) hR hu he v1 (boundR_of h2 hE) b3 b4 ?_) (by simp [execOp, hop])
                clear h2 b3 b4 v1
                cases al with
                | none => exact hK
                | some al => exact hK
        · cases hc
      · rename_i n el hu
        split at hc
        · rename_i hn
          simp only [Option.map_eq_some_iff] at hc
          obtain ⟨el', he, rfl⟩ := hc
          have : mx = none := hm (by simpa using hn)
          subst this
          refine wp_of_RunS hnd (slA_sound (lo := al.map (AX.ev e)) (hi := ah.map (AX.ev e)) hR hu he v1 (boundR_of h2 hE) (boundR_of h3 hE) ?_) (by simp [execOp, hop])
          clear h2 h3 v1
          cases al <;> cases ah <;> exact hK
        · cases hc
      · cases hc
    · cases hc
  case fieldAddr s x f =>
    split at hc
    · rename_i fs ax hu h1
      simp only [Option.bind_eq_some_iff] at hc
      obtain ⟨fi, hf, hc⟩ := hc
      split at hc
      · cases hc
      · rename_i h0
        cases hc
        cases hi : P.info? fi.type with
        | none => simp [hi] at h0
        | some i => exact wp_of_RunS hnd (faddr_sound hR hu hf hi (by simpa [hi] using h0) (cX_rel h1 hE) hK) (by simp [execOp, hop])
    · cases hc
  case field s x f =>
    split at hc
    · rename_i fs ax hu h1
      simp only [Option.bind_eq_some_iff] at hc
      obtain ⟨fi, hf, hc⟩ := hc
      split at hc
      · rename_i ag i hA hi
        split at hc
        · cases hc
          exact wp_of_RunS hnd (field_sound hR hu hf hA hi (cX_rel h1 hE) hK) (by simp [execOp, hop])
        · cases hc
      · cases hc
    · cases hc
  case indexAddr t x y =>
    split at hc
    · rename_i el ax ay hu h1 h2
      simp only [Option.map_eq_some_iff] at hc
      obtain ⟨el', he, rfl⟩ := hc
      refine wp_of_RunS hnd (iaddrS_sound hR hu he (cX_rel h1 hE) (cX_rel h2 hE) ?_) (by simp [execOp, hop])
      simp only [AOp.run] at hK
      generalize AX.ev e ax = z at hK ⊢
      generalize AX.ev e ay = z' at hK ⊢
      cases z' <;> simp only at hK ⊢
      cases z <;> exact hK
    · rename_i n el ax ay hu h1 h2
      simp only [Option.map_eq_some_iff] at hc
      obtain ⟨el', he, rfl⟩ := hc
      refine wp_of_RunS hnd (iaddrA_sound hR hu he (cX_rel h1 hE) (cX_rel h2 hE) ?_) (by simp [execOp, hop])
      simp only [AOp.run] at hK
      generalize AX.ev e ax = z at hK ⊢
      generalize AX.ev e ay = z' at hK ⊢
      cases z' <;> simp only at hK ⊢
      cases z <;> exact hK
    · cases hc
  case index t x y =>
    split at hc
    · rename_i ax ay hu h1 h2
      cases hc
      exact wp_of_RunS hnd (idxS_sound hR hu (cX_rel h1 hE) (cX_rel h2 hE) hK) (by simp [execOp, hop])
    · rename_i n el ax ay hu h1 h2
      simp only [Option.map_eq_some_iff] at hc
      obtain ⟨el', he, rfl⟩ := hc
      exact wp_of_RunS hnd (idxA_sound hR hu he (cX_rel h1 hE) (cX_rel h2 hE) hK) (by simp [execOp, hop])
    · cases hc
  case extract x i =>
    simp only [Option.map_eq_some_iff] at hc
    obtain ⟨ax, h1, rfl⟩ := hc
    exact wp_of_RunS hnd (extract_sound hR (cX_rel h1 hE) hK) (by simp [execOp, hop])
  case makeSlice t l c =>
    split at hc
    · rename_i el al ac hu h1 h2
      split at hc
      · rename_i el' z he hz
        cases hc
        split at hK
        · simp only [AOp.run] at hK
          split at hK
          · split at hK
            · rename_i hn
              split at hK
              · rename_i q1 q2
                refine wp_of_RunS hnd (mksAt_sound hR hn hu he hz (cX_rel h1 hE) (cX_rel h2 hE) ?_) (by simp [execOp, hop])
                simp only [q1, q2]
                exact hK
              · exact hK.elim
            · exact hK.elim
          · exact hK.elim
        · exact wp_of_RunS hnd (mkslice_sound hR hu he hz (cX_rel h1 hE) (cX_rel h2 hE) hK) (by simp [execOp, hop])
      · cases hc
    · cases hc
  case range t x =>
    split at hc
    · rename_i ht
      simp only [Option.map_eq_some_iff] at hc
      obtain ⟨ax, h1, rfl⟩ := hc
      have hv := cX_rel h1 hE
      simp only [AOp.run] at hK
      generalize AX.ev e ax = z at hv hK
      generalize hev : a.eval x = xv at hv
      cases hv <;> simp only at hK
      rename_i s
      obtain ⟨r1, r2⟩ := hR.allocObj (.stringIter ⟨s.toArray⟩ 0) (.siter s 0) 1 0 ⟨by simp [Ghost.push], w.heap.size, by simp [Ghost.push], heap_alloc_new w _⟩
      refine wp_of_value hnd (v := .pointer (some ⟨w.heap.size, 0, none⟩)) (w' := w.alloc (.stringIter ⟨s.toArray⟩ 0)) ?_ ⟨_, _, _, _, rfl, r1, r2, .ref _ _ _ ⟨by simp [Ghost.push, hR.len], _, rfl, fun _ => ⟨by simp [Ghost.push, hR.len], rfl⟩⟩, hK⟩
      simp [execOp, hop, hev, Instr.range, run_underlying' ht, newObj, Sem.run]
    · cases hc
  case next x b =>
    split at hc
    · rename_i hb
      simp only [Option.map_eq_some_iff] at hc
      obtain ⟨ax, h1, rfl⟩ := hc
      have hv := cX_rel h1 hE
      simp only [AOp.run] at hK
      generalize AX.ev e ax = z at hv hK
      split at hK
      · split at hK
        · rename_i l _ s pos hl
          generalize hev : a.eval x = xv at hv
          cases hv with
          | ref _ _ _ hO =>
            obtain ⟨_, A, rfl, h2⟩ := hO
            obtain ⟨hv0, bb, hb1, hb2⟩ := hR.ok l _ hl
            obtain ⟨h3, h4⟩ := h2 hv0
            rw [hb1] at h3; cases h3
            have hsz : (⟨s.toArray⟩ : ByteArray).size = s.length := rfl
            split at hK
            · rename_i hlt
              have hup := hR.update (o' := .siter s (pos + (Utf8.decode ⟨s.toArray⟩ pos).2)) (w' := { w with heap := w.heap.setIfInBounds A.block (.stringIter ⟨s.toArray⟩ (pos + (Utf8.decode ⟨s.toArray⟩ pos).2)) }) hl rfl hb1
                (by simp) rfl rfl rfl (fun c hc => by simp [Array.getElem?_setIfInBounds, Ne.symm hc]) (fun _ => ⟨hv0, _, hb1, by have := (Array.getElem?_eq_some_iff.1 hb2).1; simp [this]⟩)
              refine wp_of_value hnd ?_ ⟨_, g, _, _, rfl, hup.1, hup.2, .tup _ #[.bool true, .int .i64 pos, .int .i32 (Utf8.decode ⟨s.toArray⟩ pos).1] rfl (fun i hi => ?_), hK⟩
              · rw [h4] at hev
                have hlt2 : pos < (⟨s.toArray⟩ : ByteArray).size := hlt
                simp only [execOp, hop, hev, Instr.next, getObj, setObj, Sem.run_bind, Sem.run, hb2, Result.andThen, hb, hlt2, if_true]
                have := (Array.getElem?_eq_some_iff.1 hb2).1
                simp [this, goInt]
              · match i, hi with
                | 0, _ => exact .bool true
                | 1, _ => exact .int _ _
                | 2, _ => exact .int _ _
            · rename_i hlt
              refine wp_of_value hnd (v := .tuple #[.bool false]) (w' := w) ?_ ⟨_, g, _, _, rfl, hR, .refl _ _ _, .tup _ _ rfl (fun i hi => ?_), hK⟩
              · rw [h4] at hev
                have hlt2 : ¬ pos < (⟨s.toArray⟩ : ByteArray).size := hlt
                simp only [execOp, hop, hev, Instr.next, getObj, setObj, Sem.run_bind, Sem.run, hb2, Result.andThen, hb, hlt2, if_false]
                rfl
              · match i, hi with
                | 0, _ => exact .bool false
        · exact hK.elim
      · exact hK.elim
    · cases hc
  case makeMap t r =>
    cases r with
    | some r => cases hc
    | none =>
      cases hc
      exact wp_of_RunS hnd (mkmap_sound (t := t) hR hK) (by simp [execOp, hop])
  case lookup t x k ok =>
    split at hc
    · rename_i key elem ax ak ht h1 h2
      split at hc
      · rename_i kd z hk hz
        cases hc
        obtain ⟨d, hd, hkk⟩ := Option.bind_eq_some_iff.1 hk
        refine wp_of_RunS hnd (lkup_sound (ok := ok) hR ht hd (keyD_of hkk) hz (cX_rel h1 hE) (cX_rel h2 hE) ?_) (by simp [execOp, hop])
        simp only [AOp.run, List.map_cons, List.map_nil] at hK
        generalize AX.ev e ax = z at hK ⊢
        cases z <;> exact hK
      · cases hc
    · cases hc
  case mapUpdate t m k v =>
    split at hc
    · rename_i key elem am ak av ht h1 h2 h3
      split at hc
      · rename_i kd hk
        cases hc
        obtain ⟨d, hd, hkk⟩ := Option.bind_eq_some_iff.1 hk
        exact mapset_wp hnd hR ht hd (keyD_of hkk) (cX_rel h1 hE) (cX_rel h2 hE) (cX_rel h3 hE) (by simp [execOp, hop]) hK
      · cases hc
    · cases hc
  case insert t m k v =>
    split at hc
    · rename_i key elem am ak av ht h1 h2 h3
      split at hc
      · rename_i kd hk
        cases hc
        obtain ⟨d, hd, hkk⟩ := Option.bind_eq_some_iff.1 hk
        exact mapset_wp hnd hR ht hd (keyD_of hkk) (cX_rel h1 hE) (cX_rel h2 hE) (cX_rel h3 hE) (by simp [execOp, hop]) hK
      · cases hc
    · cases hc
  case mapEntry t m k =>
    split at hc
    · rename_i key elem ax ak ht h1 h2
      split at hc
      · rename_i kd z hk hz
        cases hc
        obtain ⟨d, hd, hkk⟩ := Option.bind_eq_some_iff.1 hk
        exact wp_of_RunS hnd (ment_sound hR ht hd (keyD_of hkk) hz (cX_rel h1 hE) (cX_rel h2 hE) hK) (by simp [execOp, hop])
      · cases hc
    · cases hc
  case entryStore t m k v =>
    split at hc
    · rename_i am ak av h1 h2 h3
      cases hc
      exact ests_wp (t := t) hnd hR (cX_rel h1 hE) (cX_rel h2 hE) (cX_rel h3 hE) (by simp [execOp, hop]) hK
    · cases hc
  case sliceToArrayPointer t x =>
    split at hc
    · rename_i n e ax ht h1
      cases hc
      exact wp_of_RunS hnd (s2a_sound hR ht (cX_rel h1 hE) hK) (by simp [execOp, hop])
    · cases hc
  case typeAssert x xt T ok =>
    split at hc
    · cases hc
    · cases hc
    · rename_i d hd hu
      split at hc
      · rename_i ax z h1 hz
        cases hc
        exact wp_of_RunS hnd (tas_sound (xt := xt) hR hu (fun l e => hd l e) hz (cX_rel h1 hE) hK) (by simp [execOp, hop])
      · cases hc
  case panic x =>
    simp only [Option.map_eq_some_iff] at hc
    obtain ⟨ax, h1, rfl⟩ := hc
    have v1 := cX_rel h1 hE
    simp only [AOp.run] at hK
    generalize AX.ev e ax = z at v1 hK
    generalize hev : a.eval x = xv at v1
    cases v1 <;> simp only at hK
    rename_i t b v h
    refine wpIn_of_run hnd ?_
    have : (execOp a.eval o).run P w = .halt (.panic (.iface t v)) w := by simp [execOp, hop, hev, Instr.panic]
    rw [this]
    exact ⟨rfl, .iface t v, g, .ifc t b, σ, rfl, hR, .refl _ _ _, .ifc t b v h, hK⟩
  case call c =>
    obtain ⟨callee, args, ats⟩ := c
    simp only at hc
    cases callee with
    | invoke r m =>
      simp only at hc
      split at hc
      · rename_i ar az h1 h2
        cases hc
        have e1 : (#[a.eval r] ++ args.map a.eval)[0]? = some (a.eval r) := by rw [Array.getElem?_append_left (by simp)]; rfl
        have e2 : (args.map a.eval).extract 0 args.size = args.map a.eval := by
          have := Array.extract_size (xs := args.map a.eval)
          simpa using this
        exact inv_wp hnd hR (cX_rel h1 hE) (args_rel h2 hE) (by simp [execOp, hop, resolve, invoke, e1, e2]) hK
      · cases hc
    | value f =>
      simp only at hc
      split at hc
      · rename_i gf ax h0 h2
        cases hc
        obtain ⟨⟨fn, hf, hn, hb, hx1, hx2⟩, hK⟩ := hK
        have hfg : f = .func gf := by
          cases f with
          | func f =>
            simp only [noEsc] at h0
            split at h0
            · split at h0
              · cases h0; rfl
              · cases h0
            · cases h0
          | _ => cases h0
        subst hfg
        have hargs : ∃ x0, args = #[x0] ∧ cX nt x0 = some ax := by
          cases hl : args.toList with
          | nil => rw [hl] at h2; cases h2
          | cons x0 r =>
            rw [hl] at h2
            simp only [cXs] at h2
            split at h2
            · rename_i a1 az1 e1 e2
              cases h2
              cases r with
              | nil => exact ⟨x0, by rw [← Array.toArray_toList (xs := args), hl], e1⟩
              | cons x1 r =>
                simp only [cXs] at e2
                split at e2 <;> cases e2
            · cases h2
        obtain ⟨x0, rfl, hx0⟩ := hargs
        have v1 := cX_rel hx0 hE
        refine wp_of_val hnd hR (v := a.eval x0) ?_ v1 hK
        simp only [execOp, hop, resolve, Sem.run_bind, Act.eval, Deferred.ofValue, Sem.run_pure, Result.andThen_ok, invoke]
        simp only [List.map_toArray, List.map_cons, List.map_nil, List.append_toArray, List.nil_append, List.append_nil]
        rw [run_callFunc_extern hf hn hb hx1 hx2]
        rfl
      · rename_i af az h1 h2 _
        have key : ∃ q, (AOp.call q af az).run P e σ K Kp := by
          cases hc
          exact pcOp_key hK
        clear hc hK
        obtain ⟨qq, hK⟩ := key
        have v1 := cX_rel h1 hE
        simp only [AOp.run] at hK
        generalize AX.ev e af = z at v1 hK
        generalize hev : a.eval f = fv at v1
        by_cases hyl : ∃ l, z = .yld l
        · obtain ⟨l, rfl⟩ := hyl
          cases v1
          rename_i hy
          obtain ⟨hl, b, rfl, hb⟩ := hy
          obtain ⟨a1, a2⟩ := args_rel h2 hE
          simp only at hK
          have both : ∀ q : Bool, (if q then False else YieldA P l (az.map (AX.ev e)) σ fun
            | .ret r, σ' => K r σ'
            | .panic r, σ' => Kp r σ') → o.wpIn (WF ro) wn P a w (Nxt g w σ a o.dst K) (Pnc g w σ a Kp) := fun q hK => by
            cases q with
            | true => exact (by simpa using hK : False).elim
            | false =>
            simp only [Bool.false_eq_true, if_false] at hK
            refine yield_wp hnd (b := b) (vs := args.map a.eval) ?_ hR hb a1 a2 hK
            simp only [execOp, hop, resolve, Sem.run_bind, hev, Deferred.ofValue, Sem.run_pure, Result.andThen_ok, invoke]
            simp
          exact both _ hK
        cases v1 <;> (try exact hK.elim)
        case yld => exact absurd ⟨_, rfl⟩ hyl
        rename_i fn first cap first' cap' hl hl' hh hh'
        cases fn <;> (try exact hK.elim)
        rename_i n
        simp only at hK
        obtain ⟨a1, a2⟩ := args_rel h2 hE
        obtain ⟨b1, b2⟩ := append_rel hl hh a1 a2
        obtain ⟨c1, c2⟩ := append_rel b1 b2 hl' hh'
        have hex : Has P n → (execOp a.eval o).run P w = .ok (.enter n (first' ++ args.map a.eval ++ cap')) w := fun hb => by
          simp only [execOp, hop, resolve, Sem.run_bind, hev, Deferred.ofValue, Sem.run_pure, Result.andThen_ok, invoke, callFunc_run hb]
        have both : ∀ q : Bool, (if q then ∃ r, (∀ τ, CallQ P n (first ++ az.map (AX.ev e) ++ cap) (σ ++ τ) r) ∧ K r σ else CallA P n (first ++ az.map (AX.ev e) ++ cap) σ fun
            | .ret r, σ' => K r σ'
            | .panic r, σ' => Kp r σ') → o.wpIn (WF ro) wn P a w (Nxt g w σ a o.dst K) (Pnc g w σ a Kp) := fun q hK => by
          cases q with
          | true =>
            simp only [if_true] at hK
            obtain ⟨r, hq, hk⟩ := hK
            have hq := hq []
            rw [List.append_nil] at hq
            exact call_wp hnd (hex hq.1) hR c1 c2 (hq.mono fun out σ' ⟨h1, h2⟩ => by subst h1; subst h2; exact hk)
          | false =>
            simp only [Bool.false_eq_true, if_false] at hK
            exact call_wp hnd (hex hK.1) hR c1 c2 hK
        exact both _ hK
      · cases hc
    | builtin b =>
      have hs : ∀ {s : Sem Value} {K : AV → Store → Prop}, RunS P s g w σ K → builtin b ats o.type (args.map fun | .const _ => true | _ => false) (args.map a.eval) = (do pure (.value (← s)) : Sem Next) → o.wpIn (WF ro) wn P a w (Nxt g w σ a o.dst K) (Pnc g w σ a Kp) := fun hh hb => by
        refine wp_of_RunS hnd hh ?_
        simp only [execOp, hop, resolve]
        exact hb
      cases b <;> simp only at hc <;> (try (cases hc; done))
      case len =>
        split at hc
        · rename_i t x ht hx
          have hargs : args = #[x] := by rw [← Array.toArray_toList (xs := args), hx]
          subst hargs
          split at hc
          · rename_i hu
            simp only [Option.map_eq_some_iff] at hc
            obtain ⟨ax, h1, rfl⟩ := hc
            refine hs (s := Builtin.len_ ats o.type #[a.eval x]) (lenS_sound hR ht hu (cX_rel h1 hE) ?_) (by simp [builtin])
            simp only [AOp.run] at hK
            generalize AX.ev e ax = z at hK ⊢
            cases z <;> exact hK
          · rename_i el hu
            simp only [Option.map_eq_some_iff] at hc
            obtain ⟨ax, h1, rfl⟩ := hc
            refine hs (s := Builtin.len_ ats o.type #[a.eval x]) (lenL_sound hR ht hu (cX_rel h1 hE) ?_) (by simp [builtin])
            simp only [AOp.run] at hK
            generalize AX.ev e ax = z at hK ⊢
            cases z <;> exact hK
          · rename_i k1 e1 hu
            simp only [Option.map_eq_some_iff] at hc
            obtain ⟨ax, h1, rfl⟩ := hc
            refine hs (s := Builtin.len_ ats o.type #[a.eval x]) (lenm_sound hR ht hu (cX_rel h1 hE) ?_) (by simp [builtin])
            simp only [AOp.run, List.map_cons, List.map_nil] at hK
            generalize AX.ev e ax = z at hK ⊢
            cases z <;> exact hK
          · cases hc
        · cases hc
      case copy =>
        split at hc
        · rename_i t x y ht hx
          have hargs : args = #[x, y] := by rw [← Array.toArray_toList (xs := args), hx]
          subst hargs
          split at hc
          · rename_i el ax ay hu h1 h2
            simp only [Option.map_eq_some_iff] at hc
            obtain ⟨el2, he, rfl⟩ := hc
            exact hs (s := Builtin.copy_ ats o.type #[a.eval x, a.eval y]) (copy_sound hR ht hu he (cX_rel h1 hE) (cX_rel h2 hE) hK) (by simp [builtin])
          · cases hc
        · cases hc
      case clear =>
        split at hc
        · rename_i t x ht hx
          have hargs : args = #[x] := by rw [← Array.toArray_toList (xs := args), hx]
          subst hargs
          split at hc
          · rename_i el ax hu h1
            split at hc
            · rename_i el2 z he hz
              cases hc
              exact hs (s := Builtin.clear_ ats o.type #[a.eval x]) (clr_sound hR ht hu he hz (cX_rel h1 hE) hK) (by simp [builtin])
            · cases hc
          · cases hc
        · cases hc
      case append =>
        split at hc
        · rename_i t u x y ht hu hx
          have hargs : args = #[x, y] := by rw [← Array.toArray_toList (xs := args), hx]
          subst hargs
          split at hc
          · rename_i el el' ax ay hu1 hu2 h1 h2
            simp only [Option.map_eq_some_iff] at hc
            obtain ⟨el2, he, rfl⟩ := hc
            split at hK
            · exact hs (s := Builtin.append_ ats o.type #[a.eval x, a.eval y]) (apx_sound hR ht hu hu1 hu2 (by simp) he (cX_rel h1 hE) (cX_rel h2 hE) hK) (by simp [builtin])
            split at hK
            · exact hs (s := Builtin.append_ ats o.type #[a.eval x, a.eval y]) (appL_sound hR ht hu hu1 hu2 (by simp) he (cX_rel h1 hE) (cX_rel h2 hE) hK) (by simp [builtin])
            split at hK
            · simp only [AOp.run] at hK
              split at hK
              · split at hK
                · rename_i hn
                  split at hK
                  · rename_i ys hys
                    exact hs (s := Builtin.append_ ats o.type #[a.eval x, a.eval y]) (appAt_sound hR ht hu hu1 hu2 (by simp) he (cX_rel h1 hE) (cX_rel h2 hE) (.inl rfl) hn hys hK.1 hK.2.1 hK.2.2.1 hK.2.2.2) (by simp [builtin])
                  · exact hK.elim
                · exact hK.elim
              · exact hK.elim
            · exact hs (s := Builtin.append_ ats o.type #[a.eval x, a.eval y]) (app_sound hR ht hu hu1 hu2 (by simp) he (cX_rel h1 hE) (cX_rel h2 hE) (tyHint_or _ _) hK) (by simp [builtin])
          · rename_i el ax ay hu1 hu2 h1 h2
            simp only [Option.map_eq_some_iff] at hc
            obtain ⟨el2, he, rfl⟩ := hc
            split at hK
            · exact hs (s := Builtin.append_ ats o.type #[a.eval x, a.eval y]) (apx_sound hR ht hu hu1 hu2 (by simp) he (cX_rel h1 hE) (cX_rel h2 hE) hK) (by simp [builtin])
            · exact hs (s := Builtin.append_ ats o.type #[a.eval x, a.eval y]) (app_sound hR ht hu hu1 hu2 (by simp) he (cX_rel h1 hE) (cX_rel h2 hE) (tyHint_or _ _) hK) (by simp [builtin])
          · cases hc
        · cases hc
      case unsafeSliceData =>
        split at hc
        · rename_i t x ht hx
          have hargs : args = #[x] := by rw [← Array.toArray_toList (xs := args), hx]
          subst hargs
          split at hc
          · rename_i el ax hu h1
            simp only [Option.map_eq_some_iff] at hc
            obtain ⟨el2, he, rfl⟩ := hc
            exact hs (s := Builtin.unsafeSliceData_ ats o.type #[a.eval x]) (usd_sound hR (cX_rel h1 hE) hK) (by simp [builtin])
          · cases hc
        · cases hc
      case unsafeString =>
        split at hc
        · rename_i t t2 x y ht hx
          have hargs : args = #[x, y] := by rw [← Array.toArray_toList (xs := args), hx]
          have hats : ats = #[t, t2] := by rw [← Array.toArray_toList (xs := ats), ht]
          subst hargs
          subst hats
          split at hc
          · rename_i e1 ax ay hu h1 h2
            split at hc
            · rename_i hce
              cases hc
              exact hs (s := Builtin.unsafeString_ #[t, t2] o.type #[a.eval x, a.eval y]) (ustr_sound hR hu (by simpa using hce) (cX_rel h1 hE) (cX_rel h2 hE) hK) (by simp [builtin])
            · cases hc
          · cases hc
        · cases hc
      case min =>
        split at hc
        · rename_i ax az h1
          cases hc
          obtain ⟨a1, a2⟩ := args_rel h1 hE
          cases hl : args.toList with
          | nil => rw [hl] at h1; cases h1
          | cons x xs =>
            have hargs : args = (x :: xs).toArray := by rw [← Array.toArray_toList (xs := args), hl]
            subst hargs
            have v0 := a2 0 (by simp)
            refine hs (s := Builtin.min_ ats o.type (a.eval x :: xs.map a.eval).toArray) (min_sound (x := ax.ev e) (xs := az.map (AX.ev e)) hR (by simpa using v0) (by simpa using a1) (fun i hi => by simpa using a2 (i + 1) (by simpa using hi)) hK) (by simp [builtin])
        · cases hc
      case max =>
        split at hc
        · rename_i ax az h1
          cases hc
          obtain ⟨a1, a2⟩ := args_rel h1 hE
          cases hl : args.toList with
          | nil => rw [hl] at h1; cases h1
          | cons x xs =>
            have hargs : args = (x :: xs).toArray := by rw [← Array.toArray_toList (xs := args), hl]
            subst hargs
            have v0 := a2 0 (by simp)
            refine hs (s := Builtin.max_ ats o.type (a.eval x :: xs.map a.eval).toArray) (max_sound (x := ax.ev e) (xs := az.map (AX.ev e)) hR (by simpa using v0) (by simpa using a1) (fun i hi => by simpa using a2 (i + 1) (by simpa using hi)) hK) (by simp [builtin])
        · cases hc
end
end Go.AM
