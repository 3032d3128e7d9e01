/- Part of a proof: see Root. -/
import Derived.Test.YtnfendddolhcoaaGreatDoorW17
import Derived.RecoverIn
set_option linter.unnecessarySimpa false
set_option linter.unusedSectionVars false
set_option linter.unusedSimpArgs false
set_option linter.unusedVariables false
namespace Go.AM
variable {P : Program}
def recd : FrameMode → FrameMode
  | .panicking ({ v, recovered := false, goexit := false } :: older) => .panicking ({ v, recovered := true } :: older)
  | u => u
def OutR' (g : Ghost) (w : World) : Option AV → FrameMode → Prop
  | none, u => u = .returning
  | some a, u => ∃ v, u = .panicking [{ v, recovered := false }] ∧ VR g w a v
def DefA (P : Program) (n : FuncId) (args : List AV) (pv : Option AV) (σ : Store) (R : Store → Prop) : Prop :=
  Has P n ∧ ∀ (g : Ghost) (w : World) (vs : Array Value) (u : FrameMode), Rel g w σ → args.length = vs.size → (∀ i, i < args.length → VR g w (args.getD i .undef) (vs.getD i Go.undef)) → OutR' g w pv u →
    CallsDIn (WF none) 0 P n vs u w fun e u' w' => ∃ g' σ' v, e = .returned v ∧ u' = recd u ∧ Rel g' w' σ' ∧ Evo σ g w σ' g' w' ∧ R σ'
structure RFunc where
  nt : Nat
  k : Nat
  mvs : List (AX × Option Nat)
  rest : ACode
def compileMvs (nt : Nat) : List Oper → Option (List (AX × Option Nat))
  | [] => some []
  | o :: r => match o.op, o.guard with
    | .assign x, none => match cX nt x, compileMvs nt r with
      | some ax, some l => some ((ax, o.dst) :: l)
      | _, _ => none
    | .move x, none => match cX nt x, compileMvs nt r with
      | some ax, some l => some ((ax, o.dst) :: l)
      | _, _ => none
    | _, _ => none
def isRecover (o : Oper) : Option Nat := match o.op, o.guard with
  | .call c, none => match c.callee with
    | .builtin .recover => o.dst
    | _ => none
  | _, _ => none
def compileR (P : Program) (h : Hints) (fn : Func) : Option RFunc :=
  match fn.body, fn.results.toList with
  | some (.seq (.region _ ops false) b), [] => match ops.toList with
    | o :: r => match isRecover o, compileMvs fn.ntmps r, compileCode P fn.ntmps h false b with
      | some k, some l, some c => if c.rngs = false then some ⟨fn.ntmps, k, l, c⟩ else none
      | _, _, _ => none
    | [] => none
  | _, _ => none
def mvsA : List (AX × Option Nat) → (Env → Prop) → Env → Prop
  | [], K, e => K e
  | (x, d) :: r, K, e => mvsA r K (upd e d (x.ev e))
def endR (R : Store → Prop) : AQ
  | .normal, _, σ => R σ
  | .ret, _, σ => R σ
  | _, _, _ => False
def RFunc.wp (P : Program) (f : RFunc) (pv : Option AV) (R : Store → Prop) (e : Env) (σ : Store) : Prop := mvsA f.mvs (fun e => wpA P f.rest (endR R) e σ) (upd e (some f.k) (pv.getD .nili))
theorem wpOpsSIn_cons {F : Fence} {n : Nat} {ops : Array Oper} {Q : Exit → Act → List Frame → World → Prop} {i : Nat} {l : List Nat} {a : Act} {cs : List Frame} {w : World} {o : Oper} {x : Operand} (ho : ops[i]? = some o) (hop : o.op = .assign x ∨ o.op = .move x) (hg : o.guard = none)
    (hF : ∀ f, F.fn f) (h : wpOpsSIn F n P ops Q l (a.put o.dst (a.eval x)) cs w) : wpOpsSIn F n P ops Q (i :: l) a cs w := by
  simp only [wpOpsSIn, ho]
  refine ⟨fun f _ => hF f, ?_⟩
  have hw : Region.wanted o (yielded ops a.tmps) = true := by simp [Region.wanted, hg]
  rw [if_pos hw]
  have hx : (execOp a.eval o).run P w = .ok (.value (a.eval x)) w := by
    unfold execOp
    rcases hop with hop | hop <;> simp only [hop] <;> rfl
  rw [hx]
  exact h
theorem mvs_sound {nt : Nat} {ops : Array Oper} {Q : Exit → Act → List Frame → World → Prop} {cs : List Frame} {w : World} {g : Ghost} {K : Env → Prop} : ∀ (l : List Oper) (i : Nat) (ms : List (AX × Option Nat)) (e : Env) (a : Act),
    compileMvs nt l = some ms → (∀ j, j < l.length → ops[i + j]? = l[j]?) → mvsA ms K e → EnvR nt g w e a.tmps → (∀ e' a', K e' → EnvR nt g w e' a'.tmps → a'.defers = a.defers → Q .normal a' cs w) →
    wpOpsSIn (WF none) 0 P ops Q (List.range' i l.length) a cs w := by
  intro l
  induction l with
  | nil => intro i ms e a hc _ hw hE hK; cases hc; exact hK e a hw hE rfl
  | cons o l ih =>
    intro i ms e a hc hidx hw hE hK
    have h0 : ops[i]? = some o := by simpa using hidx 0 (by simp)
    have hidx' : ∀ j, j < l.length → ops[i + 1 + j]? = l[j]? := fun j hj => by
      have := hidx (j + 1) (by simpa using hj)
      simpa [Nat.add_assoc, Nat.add_comm 1 j] using this
    rw [List.length_cons, List.range'_succ]
    have go : ∀ (x : Operand) (ax : AX) (ms' : List (AX × Option Nat)), (o.op = .assign x ∨ o.op = .move x) → o.guard = none → cX nt x = some ax → compileMvs nt l = some ms' → mvsA ms' K (upd e o.dst (ax.ev e)) → wpOpsSIn (WF none) 0 P ops Q (i :: List.range' (i + 1) l.length) a cs w := by
      intro x ax ms' hop hg hx hms hw
      refine wpOpsSIn_cons h0 hop hg (fun _ => trivial) (ih (i + 1) ms' _ _ hms hidx' hw (hE.put o.dst (cX_rel hx hE)) (fun e' a' k1 k2 k3 => hK e' a' k1 k2 (k3.trans (put_defers _ _ _))))
    simp only [compileMvs] at hc
    split at hc
    · rename_i x hop hg
      split at hc
      · rename_i ax ms' h1 h2; cases hc; exact go x ax ms' (.inl hop) hg h1 h2 hw
      · cases hc
    · rename_i x hop hg
      split at hc
      · rename_i ax ms' h1 h2; cases hc; exact go x ax ms' (.inr hop) hg h1 h2 hw
      · cases hc
    · cases hc
theorem OutR'.recover {g : Ghost} {w : World} {pv : Option AV} {u : FrameMode} {c₀ : Frame} {cs : List Frame} (h : OutR' g w pv u) (hm : c₀.mode = u) :
    ∃ v cs', (match recoverD (c₀ :: cs) with | some (v, cs') => (v, cs') | none => (Value.nilIface, c₀ :: cs)) = (v, cs') ∧ VR g w (pv.getD .nili) v ∧ cs' = { c₀ with mode := recd u } :: cs := by
  cases pv with
  | none =>
    have h : u = .returning := h
    subst h
    refine ⟨.nilIface, c₀ :: cs, ?_, .nili, ?_⟩
    · simp [recoverD, hm]
    · have : ({ c₀ with mode := recd .returning } : Frame) = c₀ := by rw [show recd .returning = c₀.mode by rw [hm]; rfl]
      rw [this]
  | some a =>
    obtain ⟨v, h, hv⟩ := h
    subst h
    exact ⟨v, { c₀ with mode := .panicking [{ v, recovered := true }] } :: cs, by simp [recoverD, hm], hv, by simp [recd]⟩
theorem DefA.of_wp {n : FuncId} {fn : Func} {h : Hints} {rf : RFunc} {args : List AV} {pv : Option AV} {σ : Store} {R : Store → Prop} (hf : P.funcs[n]? = some fn) (hn : (fn.name == "runtime.NumGoroutine") = false) (hc : compileR P h fn = some rf)
    (hl : args.length ≤ rf.nt) (hw : rf.wp P pv R (envOf args) σ) : DefA P n args pv σ R := by
  unfold compileR at hc
  split at hc
  · rename_i id ops b hb hres
    split at hc
    · rename_i o r hops
      split at hc
      · rename_i k ms c h1 h2 h3
        split at hc
        case isFalse => cases hc
        rename_i h4
        cases hc
        refine ⟨⟨fn, hf, by simp [hb], hn⟩, fun g w vs u hR hlen hv hu => ?_⟩
        refine callsDIn_of_wpSIn (F := WF none) (n := 0) hf hb trivial fun c₀ cs hm => ?_
        have h0 : ops[0]? = some o := by rw [← Array.getElem?_toList, hops]; rfl
        have hsz : ops.size = r.length + 1 := by rw [← Array.length_toList, hops]; rfl
        obtain ⟨v, cs', hrec, hvr, hcs⟩ := hu.recover (c₀ := c₀) (cs := cs) hm
        have hE0 : EnvR fn.ntmps g w (envOf args) (vs ++ Array.replicate (fn.ntmps - vs.size) Go.undef) := by
          refine ⟨?_, fun t ht => ?_⟩
          · simp only at hl
            simp; omega
          · by_cases h : t < args.length
            · have h3 : t < vs.size := by omega
              have := hv t h
              simp only [envOf]
              rw [Array.getD_eq_getD_getElem?, Array.getElem?_append_left h3]
              simpa using this
            · have : envOf args t = .undef := by simp [envOf, List.getElem?_eq_none (Nat.le_of_not_lt h)]
              rw [this]
              exact .undef _
        have hdst : o.dst = some k ∧ o.guard = none ∧ ∃ c, o.op = .call c ∧ c.callee = .builtin .recover := by
          unfold isRecover at h1
          split at h1
          · rename_i c hop hg
            split at h1
            · rename_i hcal; exact ⟨h1, hg, c, hop, hcal⟩
            · cases h1
          · cases h1
        obtain ⟨hd, hg, cc, hop, hcal⟩ := hdst
        refine wpSIn_seq (wpSIn_region ?_)
        rw [hsz, List.range_eq_range', List.range'_succ]
        simp only [wpOpsSIn, h0]
        refine ⟨fun f _ => trivial, ?_⟩
        have hwnt : Region.wanted o (yielded ops (vs ++ Array.replicate (fn.ntmps - vs.size) Go.undef)) = true := by simp [Region.wanted, hg]
        rw [if_pos hwnt]
        have hx : ∀ ρ : Operand → Value, (execOp ρ o).run P w = .ok .recover w := fun ρ => by
          unfold execOp
          simp only [hop, resolve, hcal, Sem.run_bind, Sem.run_pure, Result.andThen_ok]
          rfl
        rw [hx]
        have fin : wpOpsSIn (WF none) 0 P ops (Exit.thenS (b.wpSIn (WF none) 0 P (bodyPostS P fn c₀ cs fun e u' w' => ∃ g' σ' v, e = .returned v ∧ u' = recd u ∧ Rel g' w' σ' ∧ Evo σ g w σ' g' w' ∧ R σ')) (bodyPostS P fn c₀ cs fun e u' w' => ∃ g' σ' v, e = .returned v ∧ u' = recd u ∧ Rel g' w' σ' ∧ Evo σ g w σ' g' w' ∧ R σ'))
            (List.range' (0 + 1) r.length) (Act.put { tmps := vs ++ Array.replicate (fn.ntmps - vs.size) Go.undef, defers := [] } o.dst v) cs' w := by
          refine mvs_sound (g := g) (nt := fn.ntmps) (K := fun e => wpA P c (endR R) e σ) r 1 ms (upd (envOf args) (some k) (pv.getD .nili)) _ h2 (fun j hj => ?_) hw ?_ ?_
          · rw [← Array.getElem?_toList, hops, Nat.add_comm]; rfl
          · rw [hd]; exact hE0.put (a := { tmps := _, defers := [] }) (some k) hvr
          · intro e' a' hK hE' hdf
            rw [put_defers] at hdf
            show b.wpSIn (WF none) 0 P _ a' cs' w
            refine wpSIn_of_wpIn rfl (wpIn_mono (code_sound b [] none 0 (fun _ => False) c (endR R) g w σ e' a' h3 hK hR hE' (by rw [hdf]; exact DefOk.nil _ _ _ _ _) (fun h => absurd h (by rw [h4]; simp))) ?_)
            rintro ex a2 w2 ⟨g2, e2, σ2, ⟨mks, hmk, hmo⟩, q2, q3, q4, q5⟩
            have hmks : mks = [] := by
              cases mks with
              | nil => rfl
              | cons d ds => obtain ⟨D, _, hD, _⟩ := hmo.mark d (by simp); exact hD.elim
            subst hmks
            have done : R σ2 → a2.defers = [] ∧ ∃ u', cs' = { c₀ with mode := u' } :: cs ∧ ∃ v, (results fn a2.tmps).run P w2 = .ok v w2 ∧ ∃ g' σ' v', Ending.returned v = .returned v' ∧ u' = recd u ∧ Rel g' w2 σ' ∧ Evo σ g w σ' g' w2 ∧ R σ' := fun hr =>
              ⟨hmk, recd u, hcs, _, results_run (us := []) (by rw [hres]; rfl), g2, σ2, _, rfl, rfl, q2, q4, hr⟩
            cases ex with
            | normal => exact done q5
            | ret => exact done q5
            | panic ch => obtain ⟨_, _, _, _, q5⟩ := q5; exact q5.elim
            | exit id => exact q5.elim
            | goto l => exact q5.elim
            | outgrown => exact q5.elim
        subst hcs
        show (match recoverD (c₀ :: cs) with
          | some (v, cs') => wpOpsSIn (WF none) 0 P ops _ _ _ cs' w
          | none => wpOpsSIn (WF none) 0 P ops _ _ _ (c₀ :: cs) w)
        split
        · rename_i v1 cs1 hr
          rw [hr] at hrec
          cases hrec
          exact fin
        · rename_i hr
          rw [hr] at hrec
          injection hrec with e1 e2
          subst e1
          rw [← e2] at fin
          exact fin
      · cases hc
    · cases hc
  · cases hc
theorem wpOpsIn_mono2 {F : Fence} {n : Nat} {ops : Array Oper} {Q Q' : Exit → Act → World → Prop} (h : ∀ e a w, Q e a w → Q' e a w) : ∀ (l : List Nat) (a : Act) (w : World), Go.wpOpsIn F n P ops Q l a w → Go.wpOpsIn F n P ops Q' l a w
  | [], a, w, hh => h _ a w hh
  | i :: l, a, w, hh => by
    simp only [Go.wpOpsIn] at hh ⊢
    cases ho : ops[i]? with
    | none => simp only [ho] at hh ⊢; exact wpOpsIn_mono2 h l a w hh
    | some o =>
      simp only [ho] at hh ⊢
      split
      · rename_i hw
        rw [if_pos hw] at hh
        exact Oper.wp_mono2 (fun a w hh => wpOpsIn_mono2 h l a w hh) h hh
      · rename_i hw
        rw [if_neg hw] at hh
        exact ⟨hh.1, wpOpsIn_mono2 h l _ w hh.2⟩
structure R2Func where
  nt : Nat
  k1 : Nat
  k2 : Nat
  gs : List GOp
def rdyIs (ops : Array Oper) (done : List Bool) (l : List Nat) : Bool := Region.ready .any ops done.toArray == l
def loadsAt : GOp → Option (Nat × Nat)
  | ⟨.load _ _ (.t t), some k, none⟩ => some (t, k)
  | _ => none
def isLoad : Op → Bool
  | .load .. => true
  | _ => false
def compileR2 (P : Program) (h : Hints) (fn : Func) : Option R2Func :=
  match fn.body, fn.results.toList with
  | some (.region _ ops true), [] => match ops.toList with
    | [o0, o1, o2, o3] => match isRecover o0, compileOps P fn.ntmps h false ops [o1, o2, o3] with
      | some k1, some (g1 :: gs) => match loadsAt g1 with
        | some (t, k2) => if isLoad o1.op && k1 != k2 && t != k1 && P.follows .mixedOrders && rdyIs ops [false, false, false, false] [0, 1] && rdyIs ops [true, false, false, false] [1] && rdyIs ops [false, true, false, false] [0]
            && rdyIs ops [true, true, false, false] [2] && rdyIs ops [true, true, true, false] [3] then some ⟨fn.ntmps, k1, k2, g1 :: gs⟩ else none
        | none => none
      | _, _ => none
    | _ => none
  | _, _ => none
def R2Func.wp (P : Program) (f : R2Func) (pv : Option AV) (R : Store → Prop) (e : Env) (σ : Store) : Prop := runOps P (endR R) f.gs (upd e (some f.k1) (pv.getD .nili)) σ
def ArrS (P : Program) (Q : Exit → Act → List Frame → World → Prop) (ops : Array Oper) (l : List Nat) (a : Act) (cs : List Frame) (w : World) : Prop :=
  ∀ (b : Frame) (k : List Item), b.kind = .deferred → b.roundOf = none → (WF none).fn b.fn → (WF none).room (cs.length + 1 + 0) →
    ∃ e a' cs' w', cs'.length = cs.length ∧ Q e a' cs' w' ∧ ArrivesIn (Machine.fenced P (WF none)) P (lone (b.atR a (.inRegion ops l :: k)) cs w) b k cs' e a' w'
theorem ArrS.of_wp {Q : Exit → Act → List Frame → World → Prop} {ops : Array Oper} {l : List Nat} {a : Act} {cs : List Frame} {w : World} (h : Go.wpOpsIn (WF none) 0 P ops (fun e a' w' => Q e a' cs w') l a w) : ArrS P Q ops l a cs w :=
  fun b k _ hr hF hroom => let ⟨e, a', w', q, r⟩ := wp_opsIn l a w h b k cs hr hF hroom; ⟨e, a', cs, w', rfl, q, r⟩
theorem ArrS.value {Q : Exit → Act → List Frame → World → Prop} {ops : Array Oper} {i : Nat} {l : List Nat} {a : Act} {cs : List Frame} {w : World} {o : Oper} {v : Value} (ho : ops[i]? = some o) (hg : o.guard = none)
    (hx : (execOp a.eval o).run P w = .ok (.value v) w) (h : ArrS P Q ops l (a.put o.dst v) cs w) : ArrS P Q ops (i :: l) a cs w := by
  intro b k hb hro hF hroom
  have hw : Region.wanted o (yielded ops a.tmps) = true := by simp [Region.wanted, hg]
  have h0 : (lone (b.atR a (.inRegion ops (i :: l) :: k)) cs w).fenced P (WF none) := fenced_oper hF hroom ho (fun _ _ => trivial)
  have hs := stepGR_op (P := P) (b := b) (k := k) (cs := cs) (w := w) (rest := l) ho hw
  rw [hro, Oper.semAt_none] at hs
  have hfin : (b.atR a (.inRegion ops (i :: l) :: k)).finish v = b.atR (a.put o.dst v) (.inRegion ops l :: k) := by rw [Frame.finish_atR, ho]; rfl
  obtain ⟨e, a', cs', w', hl, hq, harr⟩ := h b k hb hro hF hroom
  refine ⟨e, a', cs', w', hl, hq, .of_steps (.one h0 (step_lone_go ?_)) harr⟩
  rw [hs, ← hfin]; simp [stepG.apply, hx]
theorem ArrS.recover {Q : Exit → Act → List Frame → World → Prop} {ops : Array Oper} {i : Nat} {l : List Nat} {a : Act} {cs cs1 : List Frame} {w : World} {o : Oper} {v : Value} (ho : ops[i]? = some o) (hg : o.guard = none)
    (hx : (execOp a.eval o).run P w = .ok .recover w) (hlen : cs1.length = cs.length) (hrec : (match recoverD cs with | some (v, cs') => (v, cs') | none => (Value.nilIface, cs)) = (v, cs1)) (h : ArrS P Q ops l (a.put o.dst v) cs1 w) : ArrS P Q ops (i :: l) a cs w := by
  intro b k hb hro hF hroom
  have hw : Region.wanted o (yielded ops a.tmps) = true := by simp [Region.wanted, hg]
  have h0 : (lone (b.atR a (.inRegion ops (i :: l) :: k)) cs w).fenced P (WF none) := fenced_oper hF hroom ho (fun _ _ => trivial)
  have hs := stepGR_op (P := P) (b := b) (k := k) (cs := cs) (w := w) (rest := l) ho hw
  rw [hro, Oper.semAt_none] at hs
  have hfin : (b.atR a (.inRegion ops (i :: l) :: k)).finish v = b.atR (a.put o.dst v) (.inRegion ops l :: k) := by rw [Frame.finish_atR, ho]; rfl
  have hk : (b.atR a (.inRegion ops (i :: l) :: k)).kind = .deferred := hb
  have htr := tryRecover_deferred hk cs
  obtain ⟨e, a', cs', w', hl, hq, harr⟩ := h b k hb hro hF (by rw [hlen]; exact hroom)
  refine ⟨e, a', cs', w', hl.trans hlen, hq, .of_steps (.one h0 (step_lone_go ?_)) harr⟩
  rw [hs, ← hfin]
  simp only [Frame.atR, hro] at htr ⊢
  split at hrec
  · rename_i v' cs' hr
    cases hrec
    simp [stepG.apply, hx, htr, hr]
  · rename_i hr
    cases hrec
    simp [stepG.apply, hx, htr, hr]
theorem wpSIn_draw2 {Q : Exit → Act → List Frame → World → Prop} {id : Nat} {ops : Array Oper} {a : Act} {cs : List Frame} {w : World} (hm : P.follows .mixedOrders = true)
    (h : ∀ t, ArrS P Q ops (Region.linearise.go .any ops ops.size t (Array.replicate ops.size false) []) a cs { w with drawn := w.drawn + 1 }) : (Code.region id ops true).wpSIn (WF none) 0 P Q a cs w := by
  intro b k hb hr hF hroom
  obtain ⟨e, a', cs', w', l, q, r⟩ := h (w.tape w.drawn (.order b.fn id)) b k hb hr hF hroom
  refine ⟨e, a', cs', w', l, q, .of_steps (.one (fenced_calm hF hroom rfl) ?_) r⟩
  have := stepR_region_draw (P := P) (b := b) (a := a) (k := k) (cs := cs) (w := w) (ops := ops) (id := id)
  simp only [Region.schedule, hm, Bool.true_or, if_true] at this
  exact this
theorem go_pick {md : Region.Mode} {ops : Array Oper} {fuel t : Nat} {listed : Array Bool} {acc l : List Nat} (h : Region.ready md ops listed = l) :
    Region.linearise.go md ops (fuel + 1) t listed acc = match l[t % l.length]? with
      | some i => Region.linearise.go md ops fuel (t / l.length) (listed.setIfInBounds i true) (i :: acc)
      | none => acc.reverse := by
  subst h; rfl
theorem order4 {ops : Array Oper} (hs : ops.size = 4) (h0 : rdyIs ops [false, false, false, false] [0, 1] = true) (h1 : rdyIs ops [true, false, false, false] [1] = true) (h2 : rdyIs ops [false, true, false, false] [0] = true)
    (h3 : rdyIs ops [true, true, false, false] [2] = true) (h4 : rdyIs ops [true, true, true, false] [3] = true) (t : Nat) :
    Region.linearise.go .any ops ops.size t (Array.replicate ops.size false) [] = [0, 1, 2, 3] ∨ Region.linearise.go .any ops ops.size t (Array.replicate ops.size false) [] = [1, 0, 2, 3] := by
  simp only [rdyIs, beq_iff_eq] at h0 h1 h2 h3 h4
  rw [hs]
  have e0 : Array.replicate 4 false = [false, false, false, false].toArray := rfl
  rw [e0, go_pick h0]
  have one : ∀ t : Nat, t % 1 = 0 := fun t => Nat.mod_one t
  have tail : ∀ (t : Nat) (acc : List Nat), Region.linearise.go .any ops 2 t [true, true, false, false].toArray acc = acc.reverse ++ [2, 3] := fun t acc => by
    rw [go_pick h3]
    simp only [List.length_cons, List.length_nil, Nat.zero_add, one, List.getElem?_cons_zero]
    have e1 : ([true, true, false, false].toArray).setIfInBounds 2 true = [true, true, true, false].toArray := rfl
    rw [e1, go_pick h4]
    simp only [List.length_cons, List.length_nil, Nat.zero_add, one, List.getElem?_cons_zero]
    simp [Region.linearise.go]
  have h2' : t % [0, 1].length = 0 ∨ t % [0, 1].length = 1 := by simp only [List.length_cons, List.length_nil]; omega
  rcases h2' with e | e
  · left
    rw [e]
    simp only [List.getElem?_cons_zero]
    have e1 : ([false, false, false, false].toArray).setIfInBounds 0 true = [true, false, false, false].toArray := rfl
    rw [e1, go_pick h1]
    simp only [List.length_cons, List.length_nil, Nat.zero_add, one, List.getElem?_cons_zero]
    have e2 : ([true, false, false, false].toArray).setIfInBounds 1 true = [true, true, false, false].toArray := rfl
    rw [e2, tail]; rfl
  · right
    rw [e]
    simp only [List.getElem?_cons_succ, List.getElem?_cons_zero]
    have e1 : ([false, false, false, false].toArray).setIfInBounds 1 true = [false, true, false, false].toArray := rfl
    rw [e1, go_pick h2]
    simp only [List.length_cons, List.length_nil, Nat.zero_add, one, List.getElem?_cons_zero]
    have e2 : ([false, true, false, false].toArray).setIfInBounds 0 true = [true, true, false, false].toArray := rfl
    rw [e2, tail]; rfl
theorem loadsAt_eq {g : GOp} {t k : Nat} (h : loadsAt g = some (t, k)) : ∃ ag n, g = ⟨.load ag n (.t t), some k, none⟩ := by
  unfold loadsAt at h
  split at h
  · cases h; exact ⟨_, _, rfl⟩
  · cases h
theorem DefA.of_wp2 {n : FuncId} {fn : Func} {h : Hints} {rf : R2Func} {args : List AV} {pv : Option AV} {σ : Store} {R : Store → Prop} (hf : P.funcs[n]? = some fn) (hn : (fn.name == "runtime.NumGoroutine") = false) (hc : compileR2 P h fn = some rf)
    (hl : args.length ≤ rf.nt) (hw : rf.wp P pv R (envOf args) σ) : DefA P n args pv σ R := by
  unfold compileR2 at hc
  split at hc
  case h_2 => cases hc
  rename_i id ops hb hres
  split at hc
  case h_2 => cases hc
  rename_i o0 o1 o2 o3 hops
  split at hc
  case h_2 => cases hc
  rename_i k1 g1 gs hk1 hgs
  split at hc
  case h_2 => cases hc
  rename_i t k2 hld
  split at hc
  case isFalse => cases hc
  rename_i hall
  cases hc
  simp only [Bool.and_eq_true, bne_iff_ne, ne_eq] at hall
  obtain ⟨⟨⟨⟨⟨⟨⟨⟨hil, hk12⟩, htk⟩, hm⟩, y0⟩, y1⟩, y2⟩, y3⟩, y4⟩ := hall
  obtain ⟨ag, m, rfl⟩ := loadsAt_eq hld
  have hsz : ops.size = 4 := by rw [← Array.length_toList, hops]; rfl
  have hi0 : ops[0]? = some o0 := by rw [← Array.getElem?_toList, hops]; rfl
  have hi1 : ops[1]? = some o1 := by rw [← Array.getElem?_toList, hops]; rfl
  have hi2 : ops[2]? = some o2 := by rw [← Array.getElem?_toList, hops]; rfl
  have hi3 : ops[3]? = some o3 := by rw [← Array.getElem?_toList, hops]; rfl
  refine ⟨⟨fn, hf, by simp [hb], hn⟩, fun g w vs u hR hlen hv hu => ?_⟩
  refine callsDIn_of_wpSIn (F := WF none) (n := 0) hf hb trivial fun c₀ cs hmd => ?_
  obtain ⟨v, cs1, hrec, hvr, hcs⟩ := hu.recover (c₀ := c₀) (cs := cs) hmd
  have hdst : o0.dst = some k1 ∧ o0.guard = none ∧ ∃ c, o0.op = .call c ∧ c.callee = .builtin .recover := by
    unfold isRecover at hk1
    split at hk1
    · rename_i c hop hg
      split at hk1
      · rename_i hcal; exact ⟨hk1, hg, c, hop, hcal⟩
      · cases hk1
    · cases hk1
  obtain ⟨hd, hg, cc, hop, hcal⟩ := hdst
  have hx : ∀ (ρ : Operand → Value) (w : World), (execOp ρ o0).run P w = .ok .recover w := fun ρ w => by
    unfold execOp
    simp only [hop, resolve, hcal, Sem.run_bind, Sem.run_pure, Result.andThen_ok]
    rfl
  have hdr : Evo σ g w σ g { w with drawn := w.drawn + 1 } := Evo.drew σ g w (w.drawn + 1)
  have hR1 := hR.drew (w.drawn + 1)
  have hvr1 : VR g { w with drawn := w.drawn + 1 } (pv.getD .nili) v := hvr.mono hdr.mono
  have hE0 : EnvR fn.ntmps g { w with drawn := w.drawn + 1 } (envOf args) (vs ++ Array.replicate (fn.ntmps - vs.size) Go.undef) := by
    refine ⟨?_, fun t ht => ?_⟩
    · simp only at hl
      simp; omega
    · by_cases h : t < args.length
      · have h3 : t < vs.size := by omega
        have := (hv t h).mono hdr.mono
        simp only [envOf]
        rw [Array.getD_eq_getD_getElem?, Array.getElem?_append_left h3]
        simpa using this
      · have : envOf args t = .undef := by simp [envOf, List.getElem?_eq_none (Nat.le_of_not_lt h)]
        rw [this]
        exact .undef _
  generalize hw1 : ({ w with drawn := w.drawn + 1 } : World) = w1 at hdr hR1 hvr1 hE0
  obtain ⟨a0, ha0⟩ : ∃ a0 : Act, a0 = { tmps := vs ++ Array.replicate (fn.ntmps - vs.size) Go.undef, defers := [] } := ⟨_, rfl⟩
  have hE0 : EnvR fn.ntmps g w1 (envOf args) a0.tmps := by rw [ha0]; exact hE0
  have hdf0 : a0.defers = [] := by rw [ha0]
  rw [← ha0]
  have fin : ∀ (ex : Exit) (a2 : Act) (w2 : World), QR [] fn.ntmps (fun _ => False) g w1 σ (endR R) ex a2 w2 → bodyPostS P fn c₀ cs (fun e u' w' => ∃ g' σ' v, e = .returned v ∧ u' = recd u ∧ Rel g' w' σ' ∧ Evo σ g w σ' g' w' ∧ R σ') ex a2 cs1 w2 := by
    rintro ex a2 w2 ⟨g2, e2, σ2, ⟨mks, hmk, hmo⟩, q2, q3, q4, q5⟩
    have hmks : mks = [] := by
      cases mks with
      | nil => rfl
      | cons d ds => obtain ⟨D, _, hD, _⟩ := hmo.mark d (by simp); exact hD.elim
    subst hmks
    have done : R σ2 → a2.defers = [] ∧ ∃ u', cs1 = { c₀ with mode := u' } :: cs ∧ ∃ v, (results fn a2.tmps).run P w2 = .ok v w2 ∧ ∃ g' σ' v', Ending.returned v = .returned v' ∧ u' = recd u ∧ Rel g' w2 σ' ∧ Evo σ g w σ' g' w2 ∧ R σ' := fun hr =>
      ⟨hmk, recd u, hcs, _, results_run (us := []) (by rw [hres]; rfl), g2, σ2, _, rfl, rfl, q2, hdr.trans q4, hr⟩
    cases ex with
    | normal => exact done q5
    | ret => exact done q5
    | panic ch => obtain ⟨_, _, _, _, q5⟩ := q5; exact q5.elim
    | exit id => exact q5.elim
    | goto l => exact q5.elim
    | outgrown => exact q5.elim
  have hw' : runOps P (endR R) (⟨.load ag m (.t t), some k2, none⟩ :: gs) (upd (envOf args) (some k1) (pv.getD .nili)) σ := hw
  have hidx : ∀ j, j < [o1, o2, o3].length → ops[1 + j]? = [o1, o2, o3][j]? := fun j hj => by
    match j, hj with
    | 0, _ => exact hi1
    | 1, _ => exact hi2
    | 2, _ => exact hi3
  have hlc : cs1.length = (c₀ :: cs).length := by rw [hcs]; rfl
  refine wpSIn_draw2 hm fun tt => ?_
  rw [hw1]
  rcases order4 hsz y0 y1 y2 y3 y4 tt with e | e <;> rw [e]
  ·
    refine ArrS.recover hi0 hg (hx _ _) hlc hrec (ArrS.of_wp ?_)
    rw [hd]
    have hs := ops_sound (X := []) (ro := none) (wn := 0) (B := fun _ => False) (ops := ops) (Q := endR R) (g0 := g) (w0 := w1) (σ0 := σ) [o1, o2, o3] 1 _ g w1 σ _ (a0.put (some k1) v) hgs hidx hw' hR1 (hE0.put (some k1) hvr1) (by rw [put_defers, hdf0]; exact DefOk.nil _ _ _ _ _) (.refl _ _ _)
    exact wpOpsIn_mono2 (fun ex a' w' hq => fin ex a' w' hq) _ _ _ hs
  ·
    obtain ⟨ao, gs2, hc1, hc2, hgo, hgd⟩ : ∃ ao gs2, compileOp P fn.ntmps h false o1 = some ao ∧ compileOps P fn.ntmps h false ops [o2, o3] = some gs2 ∧ (⟨.load ag m (.t t), some k2, none⟩ :: gs : List GOp) = ⟨ao, o1.dst, none⟩ :: gs2 ∧ o1.guard = none := by
      simp only [compileOps] at hgs
      split at hgs
      · rename_i ao gs2 q1 q2
        split at hgs
        · rename_i hgd
          exact ⟨_, _, q1, q2, (Option.some.inj hgs).symm, hgd⟩
        · rename_i j b hgd
          split at hgs
          · split at hgs
            · have h1 := Option.some.inj hgs
              injection h1 with h2 _
              injection h2 with _ _ h3
              cases h3
            · cases hgs
          · cases hgs
      · cases hgs
    injection hgo with hgo1 hgo2
    injection hgo1 with hgo3 hgo4 _
    subst hgo2
    subst hgo3
    obtain ⟨T, adr, hop1⟩ : ∃ T adr, o1.op = .load T adr := by
      cases ho : o1.op <;> simp [ho, isLoad] at hil
      exact ⟨_, _, rfl⟩
    simp only [compileOp, hop1] at hc1
    split at hc1
    · rename_i ag' fi ax q1 q2 q3
      split at hc1
      · rename_i hag
        cases hc1
        have hload : loadA σ ag fi.size ((AX.t t).ev (envOf args)) fun av => runOps P (endR R) gs (upd (upd (envOf args) (some k1) (pv.getD .nili)) (some k2) av) σ := by
          have h1 : loadA σ ag fi.size ((AX.t t).ev (upd (envOf args) (some k1) (pv.getD .nili))) fun av => runOps P (endR R) gs (upd (upd (envOf args) (some k1) (pv.getD .nili)) (some k2) av) σ := hw'
          have e1 : (AX.t t).ev (upd (envOf args) (some k1) (pv.getD .nili)) = (AX.t t).ev (envOf args) := by simp [AX.ev, upd, htk]
          rwa [e1] at h1
        obtain ⟨lv, av, r1, r2, r3⟩ := load_pure (P := P) hR1 q1 q2 (fun h => by simpa [h] using hag) (cX_rel q3 hE0) hload
        refine ArrS.value (v := lv) hi1 hgd (by simp [execOp, hop1, r1]) ?_
        rw [← hgo4]
        refine ArrS.recover hi0 hg (hx _ _) hlc hrec (ArrS.of_wp ?_)
        rw [hd]
        have hcom : upd (upd (envOf args) (some k1) (pv.getD .nili)) (some k2) av = upd (upd (envOf args) (some k2) av) (some k1) (pv.getD .nili) := by
          funext j
          simp only [upd]
          by_cases j1 : j = k1 <;> by_cases j2 : j = k2
          · exact absurd (j1.symm.trans j2) hk12
          · simp [j1, hk12]
          · simp [j2, Ne.symm hk12]
          · simp [j1, j2]
        rw [hcom] at r3
        have hs := ops_sound (X := []) (ro := none) (wn := 0) (B := fun _ => False) (ops := ops) (Q := endR R) (g0 := g) (w0 := w1) (σ0 := σ) [o2, o3] 2 _ g w1 σ _ ((a0.put (some k2) lv).put (some k1) v) hc2 (fun j hj => by
          match j, hj with
          | 0, _ => exact hi2
          | 1, _ => exact hi3) r3 hR1 ((hE0.put (some k2) r2).put (some k1) hvr1) (by rw [put_defers, put_defers, hdf0]; exact DefOk.nil _ _ _ _ _) (.refl _ _ _)
        exact wpOpsIn_mono2 (fun ex a' w' hq => fin ex a' w' hq) _ _ _ hs
      · cases hc1
    · cases hc1
inductive DCode where
  | seq (a : ACode) (d : DCode)
  | dfr (ops : List GOp) (x : AX) (rest : ACode)
structure DFunc where
  nt : Nat
  results : List ARes
  body : DCode
def isDefer (nt : Nat) (o : Oper) : Option AX := match o.op, o.guard, o.dst with
  | .defer c, none, none => match c.callee, c.args.toList with
    | .value f, [] => cX nt f
    | _, _ => none
  | _, _, _ => none
def compileDR (P : Program) (nt : Nat) (h : Hints) (ops : Array Oper) : Option (List GOp × AX) := match ops.toList.getLast? with
  | some o => match isDefer nt o, compileOps P nt h false ops ops.toList.dropLast with
    | some x, some gs => some (gs, x)
    | _, _ => none
  | none => none
def regOps : Code → Option (Array Oper)
  | .region _ ops false => some ops
  | _ => none
def compileD (P : Program) (nt : Nat) (h : Hints) : Code → Option DCode
  | .seq a b => match (regOps a).bind (compileDR P nt h) with
    | some (gs, x) => (compileCode P nt h false b).map (.dfr gs x)
    | none => match compileCode P nt h false a, compileD P nt h b with
      | some c, some d => some (.seq c d)
      | _, _ => none
  | _ => none
def compileDF (P : Program) (h : Hints) (fn : Func) : Option DFunc := match fn.body with
  | some c => match compileD P fn.ntmps h c, compileRes P fn.ntmps fn.results.toList with
    | some b, some rs => some ⟨fn.ntmps, rs, b⟩
    | _, _ => none
  | none => none
def DCode.wp (P : Program) (Q : AQ) (QD : FuncId → List AV → AQ) : DCode → Env → Store → Prop
  | .seq a d => wpA P a (thenQ (d.wp P Q QD) Q)
  | .dfr ops x rest => runOps P (thenQ (fun e σ => match x.ev e with
      | .fn (.func n) first cap => wpA P rest (QD n (first ++ cap)) e σ
      | _ => False) Q) ops
def dfrQ (P : Program) (rs : List ARes) (R : Out → Store → Prop) (n : FuncId) (args : List AV) : AQ
  | .normal, e, σ => DefA P n args none σ fun σ' => resA e σ' rs fun vs => R (.ret (oneOf vs)) σ'
  | .ret, e, σ => DefA P n args none σ fun σ' => resA e σ' rs fun vs => R (.ret (oneOf vs)) σ'
  | .panic v, e, σ => DefA P n args (some v) σ fun σ' => resA e σ' rs fun vs => R (.ret (oneOf vs)) σ'
  | _, _, _ => False
theorem Oper.wp_mono3 {F : Fence} {wn : Nat} {o : Oper} {a : Act} {w : World} {K K' : Act → World → Prop} {Q Q' : Exit → Act → World → Prop} (h : ∀ a w, K a w → K' a w) (hq : ∀ e a w, e ≠ .normal → Q e a w → Q' e a w)
    (hh : o.wpIn F wn P a w K Q) : o.wpIn F wn P a w K' Q' := by
  unfold Oper.wpIn at *
  refine ⟨hh.1, ?_⟩
  replace hh := hh.2
  generalize (o.semAt F.round a.eval).run P w = r at *
  cases r with
  | ok n w' =>
    cases n <;> simp only [Oper.uponIn] at hh ⊢ <;>
      first
        | exact h _ _ hh
        | exact ⟨hh.1, CallsIn.mono hh.2 (fun e w'' he => by
            cases e <;> first
              | exact h _ _ he
              | exact hq _ _ _ (by simp) he
              | (obtain ⟨a0, w0, he⟩ := he; exact ⟨a0, w0, hq _ _ _ (by simp) he⟩))⟩
        | exact ⟨hh.1, RoundIn.mono hh.2 (fun e w'' he => by
            cases e <;> first
              | exact h _ _ he
              | exact hq _ _ _ (by simp) he
              | (obtain ⟨a0, w0, he⟩ := he; exact ⟨a0, w0, hq _ _ _ (by simp) he⟩))⟩
        | exact ⟨hh.1, RowsIn.mono hh.2 (fun _ _ he => h _ _ he)⟩
  | halt x w' =>
    cases x <;> simp only [Oper.uponIn] at hh ⊢ <;> first
      | exact hq _ _ _ (by simp) hh
      | exact hh
theorem wpOpsIn_append {F : Fence} {n : Nat} {ops : Array Oper} {Q1 Q : Exit → Act → World → Prop} (l2 : List Nat) (h1 : ∀ a w, Q1 .normal a w → Go.wpOpsIn F n P ops Q l2 a w) (h2 : ∀ e a w, e ≠ .normal → Q1 e a w → Q e a w) : ∀ (l1 : List Nat) (a : Act) (w : World), Go.wpOpsIn F n P ops Q1 l1 a w → Go.wpOpsIn F n P ops Q (l1 ++ l2) a w
  | [], a, w, h => h1 a w h
  | i :: l1, a, w, h => by
    simp only [List.cons_append, Go.wpOpsIn] at h ⊢
    cases ho : ops[i]? with
    | none => simp only [ho] at h ⊢; exact wpOpsIn_append l2 h1 h2 l1 a w h
    | some o =>
      simp only [ho] at h ⊢
      split
      · rename_i hw
        rw [if_pos hw] at h
        exact Oper.wp_mono3 (fun a w h => wpOpsIn_append l2 h1 h2 l1 a w h) h2 h
      · rename_i hw
        rw [if_neg hw] at h
        exact ⟨h.1, wpOpsIn_append l2 h1 h2 l1 _ w h.2⟩
theorem dfr_sound {nt : Nat} {h : Hints} {ops : Array Oper} {gs : List GOp} {x : AX} {Q : AQ} {g : Ghost} {w : World} {σ : Store} {e : Env} {a : Act} {QQ : Exit → Act → World → Prop} (hc : compileDR P nt h ops = some (gs, x)) (hw : runOps P Q gs e σ) (hR : Rel g w σ) (hE : EnvR nt g w e a.tmps)
    {B : Nat → Prop} (hd : DefOk [] B σ g w a.defers)
    (hn : ∀ (g' : Ghost) (w' : World) (σ' : Store) (e' : Env) (a' : Act), Q .normal e' σ' → Rel g' w' σ' → EnvR nt g' w' e' a'.tmps → Evo σ g w σ' g' w' → DefOk [] B σ' g' w' a'.defers →
      ∃ n first cap, x.ev e' = .fn (.func n) first cap ∧ ∀ f1 c1, VR g' w' (.fn (.func n) first cap) (.func (.func n) f1 c1) → QQ .normal { a' with defers := { target := .fn (.func n) c1, args := f1 } :: a'.defers } w')
    (hp : ∀ ex a' w', ex ≠ .normal → QR [] nt B g w σ Q ex a' w' → QQ ex a' w') :
    Go.wpOpsIn (WF none) 0 P ops QQ (List.range ops.size) a w := by
  unfold compileDR at hc
  split at hc
  · rename_i o hlast
    split at hc
    · rename_i x' gs' h1 h2
      cases hc
      have hne : ops.toList ≠ [] := fun h => by rw [h] at hlast; cases hlast
      have hsz : ops.size = ops.toList.dropLast.length + 1 := by
        rw [List.length_dropLast, ← Array.length_toList]
        have := List.length_pos_iff.2 hne
        omega
      have hsplit : ops.toList = ops.toList.dropLast ++ [o] := by
        rw [List.getLast?_eq_some_getLast hne] at hlast
        cases hlast
        exact (List.dropLast_concat_getLast hne).symm
      have hidx : ∀ j, j < ops.toList.dropLast.length → ops[0 + j]? = ops.toList.dropLast[j]? := fun j hj => by
        rw [Nat.zero_add, ← Array.getElem?_toList]
        conv => lhs; rw [hsplit]
        rw [List.getElem?_append_left hj]
      have hlo : ops[ops.toList.dropLast.length]? = some o := by
        have key : ∀ l : List Oper, (l ++ [o])[(l ++ [o]).dropLast.length]? = some o := fun l => by simp
        rw [← Array.getElem?_toList]
        conv => lhs; rw [hsplit]
        exact key _
      rw [hsz, List.range_eq_range', List.range'_concat]
      have hs := ops_sound (X := []) (ro := none) (wn := 0) (B := B) (ops := ops) (Q := Q) (g0 := g) (w0 := w) (σ0 := σ) ops.toList.dropLast 0 gs g w σ e a h2 hidx hw hR hE hd (.refl _ _ _)
      refine wpOpsIn_append _ ?_ hp _ a w hs
      rintro a1 w1 ⟨g1, e1, σ1, d1, r1, E1, v1, q1⟩
      obtain ⟨n, first, cap, hx, hq⟩ := hn g1 w1 σ1 e1 a1 q1 r1 E1 v1 d1
      simp only [Nat.zero_add, Nat.one_mul, Go.wpOpsIn, hlo]
      unfold isDefer at h1
      split at h1
      · rename_i c hop hg hdst
        split at h1
        · rename_i f hcal hargs
          have hwn : Region.wanted o (yielded ops a1.tmps) = true := by simp [Region.wanted, hg]
          rw [if_pos hwn]
          have hv := cX_rel h1 E1
          rw [hx] at hv
          generalize hfv : a1.eval f = fv at hv
          have hv0 := hv
          cases hv
          rename_i f1 c1 _ _ _ _
          have hz : c.args = #[] := by
            have := congrArg List.toArray hargs
            simpa using this
          have hrun : (o.semAt (WF none).round a1.eval).run P w1 = .ok (.defer { target := .fn (.func n) c1, args := f1 }) w1 := by
            show (execOp a1.eval o).run P w1 = _
            unfold execOp
            simp only [hop, resolve, hcal, hz, hfv, Deferred.ofValue, Sem.run_bind, Sem.run_pure, Result.andThen_ok]
            simp
          refine ⟨fun _ _ => trivial, ?_⟩
          rw [hrun]
          simp only [Oper.uponIn, hdst, Act.put]
          exact hq f1 c1 hv0
        · cases h1
      · cases h1
    · cases hc
  · cases hc
theorem settle_recd {g : Ghost} {w : World} {pv : Option AV} {u : FrameMode} (h : OutR' g w pv u) : u ≠ .run ∧ settle (recd u) = .returning := by
  cases pv with
  | none => have h : u = .returning := h; subst h; exact ⟨by simp, rfl⟩
  | some a => obtain ⟨v, h, _⟩ := h; subst h; exact ⟨by simp, rfl⟩
theorem OutR'.mono {g g' : Ghost} {w w' : World} (hm : Mono g w g' w') {pv : Option AV} {u : FrameMode} (h : OutR' g w pv u) : OutR' g' w' pv u := by
  cases pv with
  | none => exact h
  | some a => obtain ⟨v, h, hv⟩ := h; exact ⟨v, h, hv.mono hm⟩
theorem leave_dfr {fn : Func} {rs : List ARes} {R : Out → Store → Prop} {g0 : Ghost} {w0 : World} {σ0 : Store} (hrs : compileRes P fn.ntmps fn.results.toList = some rs) {g1 : Ghost} {w1 : World} {σ1 : Store} {g' : Ghost} {w' : World} {σ' : Store} {e' : Env} {tmps : Array Value} {n : FuncId} {first cap : List AV} {f1 c1 : Array Value} {ms1 ms : List Deferred} {pv : Option AV} {u : FrameMode}
    (hev : Evo σ0 g0 w0 σ1 g1 w1) (hB : w0.heap.size ≤ w1.heap.size) (hms1 : MarkOk (fun D => w0.heap.size ≤ D) σ1 g1 w1 ms1) (hv : VR g1 w1 (.fn (.func n) first cap) (.func (.func n) f1 c1)) (hms : MarkOk (fun D => w1.heap.size ≤ D) σ' g' w' ms) (hR : Rel g' w' σ') (hE : EnvR fn.ntmps g' w' e' tmps) (hv1 : Evo σ1 g1 w1 σ' g' w')
    (hu : OutR' g' w' pv u) (hq : DefA P n (first ++ cap) pv σ' fun σ' => resA e' σ' rs fun vs => R (.ret (oneOf vs)) σ') :
    LeavesInM (WF none) 0 P fn tmps (fun e w' => ∃ out g' σ', Rel g' w' σ' ∧ Evo σ0 g0 w0 σ' g' w' ∧ OutR g' w' out e ∧ R out σ') (ms ++ ({ target := .fn (.func n) c1, args := f1 } :: ms1)) u w' := by
  refine leaves_marks (settle_recd hu).1 ms w' hms hR hE hv1 (fun w2 R2 E2 V2 M2 => ?_)
  cases hv
  rename_i hl hh hl' hh'
  obtain ⟨c3, c4⟩ := append_rel hl (fun i hi => (hh i hi).mono V2.mono) hl' (fun i hi => (hh' i hi).mono V2.mono)
  refine ⟨(settle_recd hu).1, .inr ⟨fun h => by simp [WF, Fence.wide] at h, .func n, c1, n, f1 ++ c1, rfl, ?_, fun _ _ => trivial, ?_⟩⟩
  · simp only [invoke]
    exact callFunc_run hq.1 _ _
  · refine (hq.2 g' w2 (f1 ++ c1) u R2 c3 c4 (hu.mono M2)).mono ?_
    rintro e u' w3 ⟨g3, σ3, v, rfl, rfl, R3, V3, hres⟩
    show LeavesInM (WF none) 0 P fn tmps _ ms1 (settle (recd u)) w3
    rw [(settle_recd hu).2]
    have := leaves_marks (X := []) (P := P) (R := fun e w' => ∃ out g' σ', Rel g' w' σ' ∧ Evo σ0 g0 w0 σ' g' w' ∧ OutR g' w' out e ∧ R out σ') (fn := fn) (tmps := tmps) (u := .returning) (by simp) ms1 w3 (hms1.step (V2.trans V3)) R3 (E2.mono V3.mono) ((hev.trans V2).trans V3) (fun w4 R4 E4 V4 M4 => by
      obtain ⟨avs, us, r1, r2, r3, r4⟩ := res_sound (P := P) R4 E4 fn.results.toList rs _ hrs hres
      exact ⟨_, results_run r1, .ret (oneOf avs), g3, σ3, R4, V4, out_rel r2 r3, r4⟩)
    simpa using this
theorem dcode_sound {fn : Func} {h : Hints} {rs : List ARes} {R : Out → Store → Prop} {g0 : Ghost} {w0 : World} {σ0 : Store} (hrs : compileRes P fn.ntmps fn.results.toList = some rs) : ∀ (c : Code) (dc : DCode) (g : Ghost) (w : World) (σ : Store) (e : Env) (a : Act),
    compileD P fn.ntmps h c = some dc → dc.wp P (retQ rs R) (dfrQ P rs R) e σ → Rel g w σ → EnvR fn.ntmps g w e a.tmps → DefOk [] (fun D => w0.heap.size ≤ D) σ g w a.defers → w0.heap.size ≤ w.heap.size → Evo σ0 g0 w0 σ g w →
    c.wpIn (WF none) 0 P (bodyPostM (WF none) 0 P fn fun e w' => ∃ out g' σ', Rel g' w' σ' ∧ Evo σ0 g0 w0 σ' g' w' ∧ OutR g' w' out e ∧ R out σ') a w := by
  intro c
  have base : ∀ (g : Ghost) (w : World) (σ : Store) (ex : Exit) (a' : Act) (w' : World), QR [] fn.ntmps (fun D => w0.heap.size ≤ D) g w σ (retQ rs R) ex a' w' → Evo σ0 g0 w0 σ g w → bodyPostM (WF none) 0 P fn (fun e w' => ∃ out g' σ', Rel g' w' σ' ∧ Evo σ0 g0 w0 σ' g' w' ∧ OutR g' w' out e ∧ R out σ') ex a' w' :=
    fun g w σ ex a' w' hq hev => bodyPost_of hrs (QR.step hev hq)
  induction c with
  | seq x y ihx ihy =>
    intro dc g w σ e a hc hw hR hE hd hB hev
    simp only [compileD] at hc
    split at hc
    · rename_i gs clo hr
      obtain ⟨rest, hrest, rfl⟩ := Option.map_eq_some_iff.1 hc
      obtain ⟨ops, ho, hdr⟩ := Option.bind_eq_some_iff.1 hr
      cases x with
      | region id ops' d =>
        cases d with
        | true => cases ho
        | false =>
          cases ho
          refine wpIn_seq (wpIn_region (dfr_sound (Q := thenQ (fun e σ => match clo.ev e with
            | .fn (.func n) first cap => wpA P rest (dfrQ P rs R n (first ++ cap)) e σ
            | _ => False) (retQ rs R)) hdr hw hR hE hd ?_ ?_))
          · intro g1 w1 σ1 e1 a1 q1 R1 E1 V1 D1
            simp only [thenQ] at q1
            split at q1
            · rename_i n first cap hx
              refine ⟨n, first, cap, hx, fun f1 c1 hv => ?_⟩
              obtain ⟨ms1, hms1, hmo1⟩ := D1
              refine wpIn_mono (code_sound y ({ target := .fn (.func n) c1, args := f1 } :: a1.defers) none 0 (fun D => w1.heap.size ≤ D) rest _ g1 w1 σ1 e1 _ hrest q1 R1 E1 (DefOk.nil _ _ _ _ _) (Low.at _ _)) ?_
              rintro ex a2 w2 ⟨g2, e2, σ2, ⟨ms, hms, hmo⟩, R2, E2, V2, q2⟩
              have hds : a2.defers = ms ++ ({ target := .fn (.func n) c1, args := f1 } :: ms1) := by rw [hms, hms1, List.append_nil]
              have hsz := Nat.le_trans hB V1.size
              cases ex with
              | normal =>
                show LeavesInM (WF none) 0 P fn a2.tmps _ a2.defers .returning w2
                rw [hds]
                exact leave_dfr (pv := none) hrs (hev.trans V1) hsz hmo1 hv hmo R2 E2 V2 rfl q2
              | ret =>
                show LeavesInM (WF none) 0 P fn a2.tmps _ a2.defers .returning w2
                rw [hds]
                exact leave_dfr (pv := none) hrs (hev.trans V1) hsz hmo1 hv hmo R2 E2 V2 rfl q2
              | panic ch =>
                obtain ⟨v, av, rfl, hvr, q2⟩ := q2
                show LeavesInM (WF none) 0 P fn a2.tmps _ a2.defers _ w2
                rw [hds]
                exact leave_dfr (pv := some av) hrs (hev.trans V1) hsz hmo1 hv hmo R2 E2 V2 ⟨v, rfl, hvr⟩ q2
              | exit id => exact q2.elim
              | goto l => exact q2.elim
              | outgrown => exact q2.elim
            · exact q1.elim
          · rintro ex a' w' hne ⟨g', e', σ', r1, r2, r3, r4, r5⟩
            cases ex with
            | normal => exact absurd rfl hne
            | exit id => exact r5.elim
            | goto l => exact r5.elim
            | ret => exact base g w σ .ret a' w' ⟨g', e', σ', r1, r2, r3, r4, r5⟩ hev
            | panic ch => exact base g w σ (.panic ch) a' w' ⟨g', e', σ', r1, r2, r3, r4, r5⟩ hev
            | outgrown => exact r5.elim
      | _ => cases ho
    · split at hc
      · rename_i c1 d1 h1 h2
        cases hc
        refine wpIn_seq (wpIn_mono (code_sound x [] none 0 (fun D => w0.heap.size ≤ D) c1 _ g w σ e a h1 hw hR hE hd (fun _ D hD => Nat.le_trans hB hD)) ?_)
        rintro ex a' w' ⟨g', e', σ', r1, r2, r3, r4, r5⟩
        cases ex with
        | normal => exact ihy d1 g' w' σ' e' a' h2 r5 r2 r3 r1 (Nat.le_trans hB r4.size) (hev.trans r4)
        | exit id => exact r5.elim
        | goto l => exact r5.elim
        | ret => exact base g w σ .ret a' w' ⟨g', e', σ', r1, r2, r3, r4, r5⟩ hev
        | panic ch => exact base g w σ (.panic ch) a' w' ⟨g', e', σ', r1, r2, r3, r4, r5⟩ hev
        | outgrown => exact r5.elim
      · cases hc
  | _ => intro dc g w σ e a hc; cases hc
theorem CallA.of_dfr {f : FuncId} {fn : Func} {h : Hints} {df : DFunc} {args : List AV} {σ : Store} {R : Out → Store → Prop} (hf : P.funcs[f]? = some fn) (hn : (fn.name == "runtime.NumGoroutine") = false) (hc : compileDF P h fn = some df)
    (hl : args.length ≤ df.nt) (hw : df.body.wp P (retQ df.results R) (dfrQ P df.results R) (envOf args) σ) : CallA P f args σ R := by
  unfold compileDF at hc
  split at hc
  · rename_i c hb
    split at hc
    · rename_i b rs h1 h2
      cases hc
      refine ⟨⟨fn, hf, by simp [hb], hn⟩, fun g w vs hR hlen hv => ?_⟩
      refine callsWF.1 (callsIn_of_wp_marks (F := WF none) (n := 0) hf hb trivial (dcode_sound h2 c b g w σ (envOf args) _ h1 hw hR ⟨?_, fun t ht => ?_⟩ (DefOk.nil _ _ _ _ _) (Nat.le_refl _) (.refl _ _ _)))
      · simp only at hl
        simp; omega
      · by_cases h : t < args.length
        · have h3 : t < vs.size := by omega
          have := hv t h
          simp only [envOf]
          rw [Array.getD_eq_getD_getElem?, Array.getElem?_append_left h3]
          simpa using this
        · have : envOf args t = .undef := by simp [envOf, List.getElem?_eq_none (Nat.le_of_not_lt h)]
          rw [this]
          exact .undef _
    · cases hc
  · cases hc
end Go.AM
