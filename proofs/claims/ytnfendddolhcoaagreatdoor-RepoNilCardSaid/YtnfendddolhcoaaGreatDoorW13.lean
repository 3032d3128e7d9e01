/- Part of a proof: see Root. -/
import Derived.Test.YtnfendddolhcoaaGreatDoorW12
import Derived.Scope
set_option linter.unnecessarySimpa false
set_option linter.unusedSectionVars false
set_option linter.unusedSimpArgs false
set_option linter.unusedVariables false
namespace Go.AM
def firstLabel : ACode → Option Nat
  | .seq a b => match firstLabel a with
    | some l => some l
    | none => firstLabel b
  | .label l => some l
  | _ => none
def findLabelA : ACode → Nat → Option ACode
  | .seq a b, l => match findLabelA a l with
    | some r => some (.seq r b)
    | none => findLabelA b l
  | .label l', l => if l' == l then some .skip else none
  | _, _ => none
section
variable (P : Program)
def holds (nt : Nat) (gs : List GOp) : List GOp :=
  (List.range (gs.foldl (fun m g => match g.op with
    | .allocAt k _ _ => Nat.max m (k + 1 - nt)
    | .appAt k _ _ _ _ => Nat.max m (k + 1 - nt)
    | .mksAt k _ _ _ _ => Nat.max m (k + 1 - nt)
    | _ => m) 0)).map fun i => ⟨.hold, some (nt + i), none⟩
theorem holds_sound {X : List Deferred} {P : Program} {Q : AQ} {nt : Nat} {B : Nat → Prop} {w : World} {tmps : Array Value} {ds : List Deferred} {gs : List GOp} : ∀ (l : List Nat) (g : Ghost) (σ : Store) (e : Env), runOps P Q ((l.map fun i => (⟨.hold, some (nt + i), none⟩ : GOp)) ++ gs) e σ → Rel g w σ → EnvR nt g w e tmps → DefOk X B σ g w ds →
    ∃ g' σ' e', runOps P Q gs e' σ' ∧ Rel g' w σ' ∧ EnvR nt g' w e' tmps ∧ DefOk X B σ' g' w ds ∧ Evo σ g w σ' g' w
  | [], g, σ, e, h, hR, hE, hd => ⟨g, σ, e, h, hR, hE, hd, .refl _ _ _⟩
  | i :: l, g, σ, e, h, hR, hE, hd => by
    rw [List.map_cons, List.cons_append] at h
    have h : runOps P Q ((l.map fun i => (⟨.hold, some (nt + i), none⟩ : GOp)) ++ gs) (upd e (some (nt + i)) (.ref σ.length 0)) (σ ++ [.resv]) := h
    obtain ⟨r1, r2⟩ := hR.hold
    have hE' : EnvR nt (g.push 0 none 0) w (upd e (some (nt + i)) (.ref σ.length 0)) tmps := by
      refine ⟨hE.size, fun t ht => ?_⟩
      have hne : t ≠ nt + i := by omega
      simp only [upd, if_neg hne]
      exact (hE.mono r2.mono).rel t ht
    obtain ⟨g', σ', e', h1, h2, h3, h4, h5⟩ := holds_sound l _ _ _ h r1 hE' (hd.step r2)
    exact ⟨g', σ', e', h1, h2, h3, h4, r2.trans h5⟩
def rcs : Code → List (Code × Code)
  | .rangeFunc _ _ a b => [(a, b)]
  | .seq a b => rcs a ++ rcs b
  | .cond _ a b => rcs a ++ rcs b
  | .block _ a => rcs a
  | .loop a => rcs a
  | .scope a => rcs a
  | _ => []
def rcAt (P : Program) (n k : Nat) : Code × Code := match (P.funcs[n]?).bind (·.body) with
  | some c => (rcs c).getD k (.skip, .skip)
  | none => (.skip, .skip)
def compileCode (nt : Nat) (h : Hints) (rd : Bool) : Code → Option ACode
  | .skip => some .skip
  | .region _ ops false => match compileOps P nt h false ops ops.toList with
    | some gs => some (.region gs)
    | none => some .stop
  | .region _ ops true => match compileOps P nt h true ops ops.toList with
    | some gs => let p := lateOrd h ops
      let gd := permG (gs.map (decor h)) p
      if (ltOk ops.size (aftOf ops) && permOk ops.size p && gs.all (fun g => plainO g.op) && drawOkA ops.size (aftP (aftOf ops) p) gd) && P.follows .mixedOrders then some (.draw (holds nt gd ++ gd) (drawPrsA ops.size (aftP (aftOf ops) p) gd)) else some .stop
    | none => some .stop
  | .seq a b => match compileCode nt h rd a, compileCode nt h rd b with
    | some x, some y => some (.seq x y)
    | _, _ => none
  | .cond c a b => match cX nt c, compileCode nt h rd a, compileCode nt h rd b with
    | some z, some x, some y => some (.cond z x y)
    | _, _, _ => none
  | .block id c => (compileCode nt h rd c).map (.block id)
  | .loop c => (compileCode nt h rd c).map .loop
  | .exit id => some (.exit id)
  | .ret => some .ret
  | .scope c => match compileCode nt h rd c with
    | some x => match firstLabel x with
      | some l => match findLabelA x l with
        | some r => some (.scope l x r)
        | none => none
      | none => none
    | none => none
  | .label l => some (.label l)
  | .goto l => some (.goto l)
  | .rangeFunc f ps ca cb => if rd then none else match cX nt f, compileCode nt h true ca, compileCode nt h true cb with
    | some z, some x, some y => some (.rng z nt ps.toList ca cb x y)
    | _, _, _ => none
  | .refuse _ => some .stop
end
theorem wf_fenced (ro : Option Nat) (P : Program) (m : Machine) : m.fenced P (WF ro) := fenced_wide P m
section
variable {P : Program}
theorem QR.step {X : List Deferred} {nt : Nat} {B : Nat → Prop} {g g' : Ghost} {w w' : World} {σ σ' : Store} {Q : AQ} (hev : Evo σ g w σ' g' w') {ex : Exit} {a : Act} {w2 : World} (h : QR X nt B g' w' σ' Q ex a w2) : QR X nt B g w σ Q ex a w2 := by
  obtain ⟨g2, e2, σ2, h1, h2, h3, h4, h5⟩ := h
  exact ⟨g2, e2, σ2, h1, h2, h3, hev.trans h4, h5⟩
def Sound (P : Program) (nt : Nat) (h : Hints) (c : Code) : Prop :=
  ∀ (X : List Deferred) (ro : Option Nat) (wn : Nat) (B : Nat → Prop) (ac : ACode) (Q : AQ) (g : Ghost) (w : World) (σ : Store) (e : Env) (a : Act),
    compileCode P nt h ro.isSome c = some ac → wpA P ac Q e σ → Rel g w σ → EnvR nt g w e a.tmps → DefOk X B σ g w a.defers → Low ac B w → c.wpIn (WF ro) wn P (QR X nt B g w σ Q) a w
theorem find_compile {nt : Nat} {h : Hints} {rd : Bool} {l : Nat} : ∀ (c : Code) (ac ar : ACode), compileCode P nt h rd c = some ac → findLabelA ac l = some ar → ∃ rest, findLabel c l = some rest ∧ compileCode P nt h rd rest = some ar := by
  intro c
  induction c with
  | seq x y ihx ihy =>
    intro ac ar hc hf
    simp only [compileCode] at hc
    split at hc
    · rename_i ax ay h1 h2
      cases hc
      simp only [findLabelA] at hf
      split at hf
      · rename_i r hr
        cases hf
        obtain ⟨rest, r1, r2⟩ := ihx ax r h1 hr
        exact ⟨.seq rest y, by simp [findLabel, r1], by simp [compileCode, r2, h2]⟩
      · rename_i hr
        obtain ⟨rest, r1, r2⟩ := ihy ay ar h2 hf
        refine ⟨rest, ?_, r2⟩
        have : findLabel x l = none := by
          have key : ∀ (c : Code) (ac : ACode), compileCode P nt h rd c = some ac → findLabelA ac l = none → findLabel c l = none := by
            intro c
            induction c with
            | seq x y ihx ihy =>
              intro ac hc hf
              simp only [compileCode] at hc
              split at hc
              · rename_i ax ay h1 h2
                cases hc
                simp only [findLabelA] at hf
                split at hf
                · cases hf
                · rename_i hr
                  simp [findLabel, ihx ax h1 hr, ihy ay h2 hf]
              · cases hc
            | label l' =>
              intro ac hc hf
              cases hc
              simp only [findLabelA] at hf
              simp only [findLabel]
              split at hf
              · cases hf
              · rename_i hh; rw [if_neg hh]
            | _ => intros; rfl
          exact key x ax h1 hr
        simp [findLabel, this, r1]
    · cases hc
  | label l' =>
    intro ac ar hc hf
    cases hc
    simp only [findLabelA] at hf
    split at hf
    · rename_i hh
      cases hf
      exact ⟨.skip, by simp only [findLabel]; rw [if_pos hh], rfl⟩
    · cases hf
  | region id ops d =>
    intro ac ar hc hf
    cases d <;> simp only [compileCode] at hc
    · split at hc <;> (cases hc; cases hf)
    · split at hc
      · split at hc <;> (cases hc; cases hf)
      · cases hc; cases hf
  | cond z x y =>
    intro ac ar hc hf
    simp only [compileCode] at hc
    split at hc
    · cases hc; cases hf
    · cases hc
  | block id x => intro ac ar hc hf; simp only [compileCode] at hc; obtain ⟨gs, _, rfl⟩ := Option.map_eq_some_iff.1 hc; cases hf
  | loop x => intro ac ar hc hf; simp only [compileCode] at hc; obtain ⟨gs, _, rfl⟩ := Option.map_eq_some_iff.1 hc; cases hf
  | scope x =>
    intro ac ar hc hf
    simp only [compileCode] at hc
    split at hc
    · split at hc
      · split at hc
        · cases hc; cases hf
        · cases hc
      · cases hc
    · cases hc
  | rangeFunc f ps x y =>
    intro ac ar hc hf
    simp only [compileCode] at hc
    split at hc
    · cases hc
    · split at hc
      · cases hc; cases hf
      · cases hc
  | _ => intro ac ar hc hf; cases hc <;> cases hf
theorem find_rngs : ∀ (c : ACode) (l : Nat) (r : ACode), findLabelA c l = some r → r.rngs = true → c.rngs = true := by
  intro c
  induction c with
  | seq a b iha ihb =>
    intro l r h hr
    simp only [findLabelA] at h
    split at h
    · rename_i r' h'
      cases h
      simp only [ACode.rngs, Bool.or_eq_true] at hr ⊢
      exact hr.imp (iha l r' h') id
    · simp only [ACode.rngs, Bool.or_eq_true]; exact .inr (ihb l r h hr)
  | label l' => intro l r h hr; simp only [findLabelA] at h; split at h <;> cases h; cases hr
  | _ => intro l r h hr; cases h
theorem sound_skip {nt : Nat} {h : Hints} : Sound P nt h .skip := fun X ro wn B ac Q g w σ e a hc hw hR hE hd hB => by
  cases hc; exact wpIn_skip ⟨g, e, σ, hd, hR, hE, .refl _ _ _, hw⟩
theorem sound_seq {nt : Nat} {h : Hints} {x y : Code} (ihx : Sound P nt h x) (ihy : Sound P nt h y) : Sound P nt h (.seq x y) := by
    intro X ro wn B ac Q g w σ e a hc hw hR hE hd hB
    simp only [compileCode] at hc
    split at hc
    · rename_i ax ay h1 h2
      cases hc
      refine wpIn_seq (wpIn_mono (ihx X ro wn B ax _ g w σ e a h1 hw hR hE hd (hB.sub (by simp [ACode.rngs]; exact fun h => .inl h))) ?_)
      rintro ex a' w' ⟨g', e', σ', r1, r2, r3, r4, r5⟩
      cases ex with
      | normal =>
        refine wpIn_mono (ihy X ro wn B ay Q g' w' σ' e' a' h2 r5 r2 r3 r1 ((hB.sub (by simp [ACode.rngs]; exact fun h => .inr h)).size r4.size)) fun ex a2 w2 hq => hq.step r4
      | exit id => exact ⟨g', e', σ', r1, r2, r3, r4, r5⟩
      | goto l => exact ⟨g', e', σ', r1, r2, r3, r4, r5⟩
      | ret => exact ⟨g', e', σ', r1, r2, r3, r4, r5⟩
      | panic ch => exact ⟨g', e', σ', r1, r2, r3, r4, r5⟩
      | outgrown => exact r5.elim
    · cases hc
theorem stepR_scope {b : Frame} {a : Act} {k : List Item} {cs : List Frame} {w : World} {c : Code} : Go.step P (lone (b.atR a (.code (.scope c) :: k)) cs w) = .next (lone (b.atR a (.code c :: .inScope c :: k)) cs w) :=
  step_lone_go (by simp [stepG, stepG.exec, Frame.atR])
theorem stepR_inScope {b : Frame} {a : Act} {k : List Item} {cs : List Frame} {w : World} {c : Code} : Go.step P (lone (b.atR a (.inScope c :: k)) cs w) = .next (lone (b.atR a k) cs w) :=
  step_lone_go (by simp [stepG, stepG.exec, Frame.atR])
theorem putArgs_rel {nt : Nat} {g : Ghost} {w : World} : ∀ (ps : List Nat) (args : List AV) (vs : List Value) (e : Env) (tmps : Array Value), EnvR nt g w e tmps → args.length = vs.length → (∀ i, i < args.length → VR g w (args.getD i .undef) (vs.getD i Go.undef)) →
    EnvR nt g w (putArgs ps args e) ((ps.zip vs).foldl (fun t (p, v) => t.setIfInBounds p v) tmps)
  | [], args, vs, e, tmps, hE, _, _ => by cases args <;> exact hE
  | p :: ps, [], vs, e, tmps, hE, hl, _ => by
    cases vs with
    | nil => exact hE
    | cons => cases hl
  | p :: ps, a :: args, vs, e, tmps, hE, hl, hv => by
    cases vs with
    | nil => cases hl
    | cons v vs =>
      simp only [putArgs, List.zip_cons_cons, List.foldl_cons]
      refine putArgs_rel ps args vs _ _ ?_ (by simpa using hl) (fun i hi => by simpa using hv (i + 1) (by simpa using hi))
      have h0 := hv 0 (by simp)
      have := EnvR.put (a := { tmps := tmps, defers := [] }) hE (some p) (v := v) (x := a) (by simpa using h0)
      simpa [Act.put] using this
theorem loop_obj {nt : Nat} {e : Env} {ps : Array Tmp} {ca cb : Code} {g : Ghost} {w : World} {σ : Store} {l : Nat} {st : LoopState} {pe : Option Code} (hR : Rel g w σ) (ho : σ[l]? = some (.loop nt e ps ca cb st pe)) :
    g.ver l = 0 ∧ ∃ b rec, g.base l = some b ∧ w.heap[b]? = some (.loop rec) ∧ rec.params = ps ∧ rec.assign = ca ∧ rec.body = cb ∧ rec.state = st ∧ rec.pending = pe ∧
      EnvR nt g w e rec.tmps := by
  obtain ⟨h1, b, rec, h2, h3, h4, h5, h6, h7, h8, h9, h10⟩ := hR.ok l _ ho
  exact ⟨h1, b, rec, h2, h3, h4, h5, h6, h7, h8, ⟨h9, h10⟩⟩
theorem loop_put {nt : Nat} {e : Env} {ps : Array Tmp} {ca cb : Code} {g : Ghost} {w : World} {σ : Store} {l : Nat} {st : LoopState} {pe : Option Code} (hR : Rel g w σ) (ho : σ[l]? = some (.loop nt e ps ca cb st pe))
    {b : Nat} {rec : Loop} (hb : g.base l = some b) (hw : w.heap[b]? = some (.loop rec)) (st' : LoopState) (pe' : Option Code) :
    Rel g (w.putObj b (.loop { rec with state := st', pending := pe' })) (σ.set l (.loop nt e ps ca cb st' pe')) ∧
    Evo σ g w (σ.set l (.loop nt e ps ca cb st' pe')) g (w.putObj b (.loop { rec with state := st', pending := pe' })) := by
  obtain ⟨h1, b', rec', h2, h3, h4, h5, h6, h7, h8, h9⟩ := loop_obj hR ho
  rw [hb] at h2; cases h2
  rw [hw] at h3; cases h3
  exact hR.update ho rfl hb (by simp) rfl rfl rfl (fun c hc => World.putObj_heap_other hc) (fun hm => ⟨h1, b, _, hb, World.putObj_heap_same (Array.getElem?_eq_some_iff.1 hw).1, h4, h5, h6, rfl, rfl, h9.size, fun t ht => (h9.rel t ht).mono hm⟩)
theorem loop_dead {nt : Nat} {e : Env} {ps : Array Tmp} {ca cb : Code} {g : Ghost} {w : World} {σ : Store} {l : Nat} {st : LoopState} {pe : Option Code} (hR : Rel g w σ) (ho : σ[l]? = some (.loop nt e ps ca cb st pe))
    {b : Nat} (o : Obj) (hb : g.base l = some b) :
    Rel g (w.putObj b o) (σ.set l .dead) ∧ Evo σ g w (σ.set l .dead) g (w.putObj b o) :=
  hR.update ho rfl hb (by simp) rfl rfl rfl (fun c hc => World.putObj_heap_other hc) (fun _ => trivial)
theorem round_sound {nt : Nat} {h : Hints} {ca cb : Code} (iha : Sound P nt h ca) (ihb : Sound P nt h cb) {aa ab : ACode} (ha : compileCode P nt h true ca = some aa) (hb : compileCode P nt h true cb = some ab) {ps : List Nat} {e : Env} {l : Nat}
    {σ : Store} {args : List AV} {R : Out → Store → Prop} (ho : σ[l]? = some (.loop nt e ps.toArray ca cb .ready none)) (hl : args.length = ps.length)
    (hw : wpA P aa (asgQ l (.loop nt e ps.toArray ca cb .ready none) (.loop nt e ps.toArray ca cb .busy none) (wpA P ab (rndQ l (.loop nt e ps.toArray ca cb) R))) (putArgs ps args e) σ) : YieldA P l args σ R := by
  refine ⟨⟨_, _, _, _, _, _, _, ho⟩, fun g w vs b hR hbase hlen hv => ?_⟩
  obtain ⟨h1, b', rec, h2, h3, h4, h5, h6, h7, h8, h9⟩ := loop_obj hR ho
  rw [hbase] at h2; cases h2
  have hy := run_yield (P := P) (args := vs) h3 (by rw [h4]; simp; omega)
  rw [h4, h5, h6] at hy
  refine ⟨_, _, _, _, hy, ?_⟩
  have hE : EnvR nt g w (putArgs ps args e) ((ps.toArray.zip vs).foldl (fun t (p, v) => t.setIfInBounds p v) rec.tmps) := by
    have := putArgs_rel ps args vs.toList e rec.tmps h9 (by simpa using hlen) (fun i hi => by have := hv i hi; simpa using this)
    rw [← Array.foldl_toList]
    simpa using this
  have key : RoundIn (WF none) 0 P b rec.fn ((ps.toArray.zip vs).foldl (fun t (p, v) => t.setIfInBounds p v) rec.tmps) ca cb w fun en w' => ∃ out g' σ', Rel g' w' σ' ∧ Evo σ g w σ' g' w' ∧ OutR g' w' out en ∧ R out σ' := by
    refine roundIn_of_wpIn trivial ?_
    refine wpIn_mono (iha [] (some b) 0 (fun D => 0 ≤ D) aa _ g w σ (putArgs ps args e) { tmps := _, defers := [] } ha hw hR hE (DefOk.nil _ _ _ _ _) (fun _ D _ => Nat.zero_le D)) ?_
    rintro ex a1 w1 ⟨g1, e1, σ1, d1, R1, E1, V1, q1⟩
    cases ex with
    | normal =>
      obtain ⟨q1, q2⟩ := q1
      obtain ⟨k1, b1, rec1, k2, k3, k4, k5, k6, k7, k8, k9⟩ := loop_obj R1 q1
      have hbb : b1 = b := by
        have hlt : l < g.n := by rw [← hR.len]; exact (List.getElem?_eq_some_iff.1 ho).1
        have := ((V1.mono.ver l hlt).2 (k1.trans h1.symm)).1
        rw [this, hbase] at k2; cases k2; rfl
      subst hbb
      have hbr := run_beginRound (P := P) k3 k7
      obtain ⟨p1, p2⟩ := loop_put R1 q1 k2 k3 .busy none
      have hpe : ({ rec1 with state := .busy, pending := none } : Loop) = { rec1 with state := .busy } := by cases rec1; simp only at k8; subst k8; rfl
      rw [hpe] at p1 p2
      refine ⟨_, hbr, ?_⟩
      have q1' : (σ1.set l (.loop nt e ps.toArray ca cb .busy none))[l]? = some (.loop nt e ps.toArray ca cb .busy none) := by
        have := (List.getElem?_eq_some_iff.1 q1).1
        simp [this]
      refine wpIn_mono (ihb [] (some b1) 0 (fun D => 0 ≤ D) ab _ g1 _ _ e1 a1 hb q2 p1 (E1.mono p2.mono) ((d1.step p2)) (fun _ D _ => Nat.zero_le D)) ?_
      rintro ex a2 w2 ⟨g2, e2, σ2, d2, R2, E2, V2, q2⟩
      have fin : ∀ jump, σ2[l]? = some (.loop nt e ps.toArray ca cb .busy none) → R (.ret (.bool jump.isNone)) (σ2.set l (.loop nt e ps.toArray ca cb (if jump.isNone then .ready else .done) jump)) →
          ∃ v w3, (Instr.endRound b1 jump).run P w2 = .ok v w3 ∧ ∃ out g' σ', Rel g' w3 σ' ∧ Evo σ g w σ' g' w3 ∧ OutR g' w3 out (.returned v) ∧ R out σ' := fun jump q2 hr => by
        obtain ⟨m1, b2, rec2, m2, m3, m4, m5, m6, m7, m8, m9⟩ := loop_obj R2 q2
        have hbb : b2 = b1 := by
          have hlt : l < g1.n := by rw [← R1.len]; exact (List.getElem?_eq_some_iff.1 q1).1
          have := ((V2.mono.ver l hlt).2 (m1.trans k1.symm)).1
          rw [this, k2] at m2; cases m2; rfl
        subst hbb
        obtain ⟨s1, s2⟩ := loop_put R2 q2 m2 m3 (if jump.isNone then .ready else .done) jump
        exact ⟨_, _, run_endRound jump m3, .ret (.bool jump.isNone), g2, _, s1, ((V1.trans p2).trans V2).trans s2, .bool _, hr⟩
      cases ex with
      | normal => exact fin none q2.1 q2.2
      | ret => exact fin (some .ret) q2.1 q2.2
      | exit i => exact fin (some (.exit i)) q2.1 q2.2
      | goto i => exact fin (some (.goto i)) q2.1 q2.2
      | panic ch => obtain ⟨_, _, _, _, hf⟩ := q2; exact hf.elim
      | outgrown => exact q2.elim
    | exit i => exact q1.elim
    | goto i => exact q1.elim
    | ret => exact q1.elim
    | panic ch => obtain ⟨_, _, _, _, hf⟩ := q1; exact hf.elim
    | outgrown => exact q1.elim
  exact key
theorem rng_sound {nt : Nat} {h : Hints} {f : Operand} {ps : Array Tmp} {ca cb : Code} (iha : Sound P nt h ca) (ihb : Sound P nt h cb) : Sound P nt h (.rangeFunc f ps ca cb) := by
  intro X ro wn B ac Q g w σ e a hc hw hR hE hd hB
  cases ro with
  | some l => simp [compileCode] at hc
  | none =>
    simp only [compileCode, Option.isSome_none, Bool.false_eq_true, if_false] at hc
    split at hc
    · rename_i af aa ab h1 h2 h3
      cases hc
      have v1 := cX_rel h1 hE
      simp only [wpA] at hw
      generalize AX.ev e af = z at v1 hw
      generalize hev : a.eval f = fv at v1
      unfold RngA at hw
      split at hw
      · rename_i n first cap
        cases v1
        rename_i first' cap' hl hh hl' hh'
        have hw := hw (.loop nt e ps.toList.toArray ca cb) (fun st pe => rfl) (fun σ' args R ho hl ha => round_sound iha ihb h2 h3 ho hl ha)
        simp only [Array.toArray_toList] at hw
        refine wpIn_rangeFunc fun fn _ => ?_
        obtain ⟨R1, V1⟩ := hR.allocRaw (.deferred (some []))
        have E1 := hE.mono V1.mono
        let rec1 : Loop := { state := .ready, pending := none, fn, tmps := a.tmps, params := ps, assign := ca, body := cb, defers := w.heap.size }
        obtain ⟨R2, V2⟩ := R1.allocObj (.loop rec1) (.loop nt e ps ca cb .ready none) 0 0
          ⟨by simp [Ghost.push], _, rec1, by simp [Ghost.push], World.alloc_heap_new _ _, rfl, rfl, rfl, rfl, rfl, E1.size, fun t ht => (E1.rel t ht).mono (alloc_mono_push g (w.alloc (.deferred (some []))) (.loop rec1) 0 _ 0 R1.lt)⟩
        have V12 := V1.trans V2
        have hnew : (g.push 0 (some (w.alloc (.deferred (some []))).heap.size) 0).base σ.length = some (w.heap.size + 1) := by simp [Ghost.push, hR.len]
        have hyv : VR (g.push 0 (some (w.alloc (.deferred (some []))).heap.size) 0) ((w.alloc (.deferred (some []))).alloc (.loop rec1)) (.yld σ.length) (.func (.yield (w.heap.size + 1)) #[] #[]) :=
          .yld _ _ ⟨by simp [Ghost.push, hR.len], _, rfl, fun _ => hnew⟩
        obtain ⟨c1, c2⟩ := append_rel hl (fun i hi => (hh i hi).mono V12.mono) (bs := [.yld σ.length]) (vs := #[.func (.yield (w.heap.size + 1)) #[] #[]]) rfl (fun i hi => by
          have : i = 0 := by simpa using hi
          subst this; exact hyv)
        obtain ⟨c3, c4⟩ := append_rel c1 c2 hl' (fun i hi => (hh' i hi).mono V12.mono)
        refine ⟨w.heap.size + 1, [{ target := .collected w.heap.size, args := #[] }], ((w.alloc (.deferred (some []))).alloc (.loop rec1)), { target := .fn (.func n) cap', args := first' ++ #[.func (.yield (w.heap.size + 1)) #[] #[]] }, ((w.alloc (.deferred (some []))).alloc (.loop rec1)), n,
          first' ++ #[.func (.yield (w.heap.size + 1)) #[] #[]] ++ cap', ((w.alloc (.deferred (some []))).alloc (.loop rec1)), run_enterLoop_outer fn a.tmps ps ca cb, ?_, fun _ _ => trivial, ?_, fun hx => by simp [WF, Fence.wide] at hx, ?_⟩
        · simp only [resolve, rangeCall, Sem.run_bind, hev, Deferred.ofValue, Sem.run_pure, Result.andThen_ok]
          simp [Act.eval]
        · simp only [invoke]
          exact callFunc_run hw.1 _ _
        · refine callsWF.2 ((hw.2 _ _ _ R2 c3 c4).mono ?_)
          rintro en w3 ⟨out, g3, σ3, R3, V3, o3, q3⟩
          have V := V12.trans V3
          have E3 : EnvR nt g3 w3 e a.tmps := hE.mono V.mono
          have hD : ∀ {σ4 : Store} {g4 : Ghost} {w4 : World}, Evo σ3 g3 w3 σ4 g4 w4 → DefOk X B σ4 g4 w4 ({ target := .collected w.heap.size, args := #[] } :: a.defers) := fun {σ4 g4 w4} V4 => by
            refine DefOk.step ?_ V4
            have hk0 : (w.alloc (.deferred (some []))).heap[w.heap.size]? = some (.deferred (some [])) := World.alloc_heap_new _ _
            have hlt : w.heap.size < (w.alloc (.deferred (some []))).heap.size := by simp
            have hnt : ¬ Tracked σ g w.heap.size := fun ht => absurd (hR.tracked_lt ht) (Nat.lt_irrefl _)
            have hni : ¬ g.imm w.heap.size := fun hi => absurd (hR.lt _ hi) (Nat.lt_irrefl _)
            have d0 : DefOk X B σ g (w.alloc (.deferred (some []))) ({ target := .collected w.heap.size, args := #[] } :: a.defers) := by
              obtain ⟨ms, hms, hd⟩ := hd
              refine ⟨{ target := .collected w.heap.size, args := #[] } :: ms, by rw [hms]; rfl, List.nodup_cons.2 ⟨fun hm => ?_, hd.nodup⟩, fun d hm => ?_⟩
              · obtain ⟨D, e1, _, e3, _⟩ := hd.mark _ hm
                have := (Array.getElem?_eq_some_iff.1 e3).1
                cases e1; exact absurd this (Nat.lt_irrefl _)
              · rcases List.mem_cons.1 hm with rfl | hm
                · exact ⟨_, rfl, hB rfl _ (Nat.le_refl _), hk0, hnt, hni⟩
                · exact (hd.step V1).mark d hm
            exact (d0.step V2).step V3
          cases out with
          | ret r =>
            cases en with
            | returned v =>
              obtain ⟨st, pe, ho, hst, q⟩ := q3
              obtain ⟨k1, b1, rec3, k2, k3, k4, k5, k6, k7, k8, k9⟩ := loop_obj R3 ho
              have hbb : b1 = w.heap.size + 1 := by
                have := ((V3.mono.ver σ.length (by simp [Ghost.push, hR.len])).2 (k1.trans (by simp [Ghost.push, hR.len]))).1
                rw [this, hnew] at k2; cases k2; rfl
              subst hbb
              obtain ⟨s1, s2⟩ := loop_dead R3 ho (.loop { rec3 with state := .exhausted }) k2
              have hend := run_endLoop (P := P) k3 (by rw [k7]; exact hst)
              obtain ⟨w4, hw4⟩ : ∃ w4, w3.putObj (w.heap.size + 1) (.loop { rec3 with state := .exhausted }) = w4 := ⟨_, rfl⟩
              rw [hw4] at s1 s2 hend
              rw [k8] at hend
              have E4 := E3.mono s2.mono
              refine ⟨_, _, hend, ?_⟩
              have fin : ∀ ex : AExit, Q ex e (σ3.set σ.length .dead) → ∃ g' e' σ', DefOk X B σ' g' w4 ({ target := .collected w.heap.size, args := #[] } :: a.defers) ∧ Rel g' w4 σ' ∧
                  EnvR nt g' w4 e' a.tmps ∧ Evo σ g w σ' g' w4 ∧ Q ex e' σ' := fun ex hq =>
                ⟨g3, e, _, hD s2, s1, E4, V.trans s2, hq⟩
              split at q
              · obtain ⟨g', e', σ', f1, f2, f3, f4, f5⟩ := fin _ q; exact ⟨g', e', σ', f1, f2, f3, f4, f5⟩
              · obtain ⟨g', e', σ', f1, f2, f3, f4, f5⟩ := fin _ q; exact wpIn_ret ⟨g', e', σ', f1, f2, f3, f4, f5⟩
              · obtain ⟨g', e', σ', f1, f2, f3, f4, f5⟩ := fin _ q; exact wpIn_exit ⟨g', e', σ', f1, f2, f3, f4, f5⟩
              · obtain ⟨g', e', σ', f1, f2, f3, f4, f5⟩ := fin _ q; exact wpIn_goto ⟨g', e', σ', f1, f2, f3, f4, f5⟩
              · exact q.elim
            | panicked c => exact o3.elim
            | outgrown => exact o3.elim
          | panic r =>
            cases en with
            | returned v => exact o3.elim
            | panicked c => obtain ⟨v, rfl, o3⟩ := o3; exact ⟨g3, e, σ3, hD (.refl _ _ _), R3, E3, V, v, r, rfl, o3, q3⟩
            | outgrown => exact o3.elim
      · exact hw.elim
    · cases hc
theorem code_sound2 {nt : Nat} {h : Hints} : ∀ (c : Code), Sound P nt h c ∧ ∀ l rest, findLabel c l = some rest → Sound P nt h rest := by
  intro c
  induction c with
  | skip => exact ⟨sound_skip, fun _ _ h => by cases h⟩
  | region id ops draw =>
    refine ⟨?_, fun _ _ h => by cases h⟩
    intro X ro wn B ac Q g w σ e a hc hw hR hE hd hB
    cases draw with
    | true =>
      simp only [compileCode] at hc
      split at hc
      · rename_i gs h1
        split at hc
        · rename_i hok
          simp only [Bool.and_eq_true] at hok
          cases hc
          obtain ⟨g1, σ1, e1, k1, k2, k3, k4, k5⟩ := holds_sound _ g σ e hw hR hE hd
          exact wpIn_mono (draw_sound h1 hok.1.1.1.1 hok.1.1.1.2 hok.1.1.2 hok.1.2 hok.2 k1 k2 k3 k4) fun _ _ _ hq => QR.step k5 hq
        · cases hc; exact hw.elim
      · cases hc; exact hw.elim
    | false =>
      simp only [compileCode] at hc
      split at hc
      · rename_i gs h1
        cases hc
        refine wpIn_region ?_
        have := ops_sound (ro := ro) (wn := wn) (B := B) (ops := ops) (Q := Q) (g0 := g) (w0 := w) (σ0 := σ) ops.toList 0 gs g w σ e a h1 (fun j _ => by simp) hw hR hE hd (.refl _ _ _)
        rw [List.range_eq_range']
        simpa using this
      · cases hc; exact hw.elim
  | seq x y ihx ihy =>
    refine ⟨sound_seq ihx.1 ihy.1, fun l rest hf => ?_⟩
    simp only [findLabel] at hf
    split at hf
    · rename_i r hr; cases hf; exact sound_seq (ihx.2 l r hr) ihy.1
    · exact ihy.2 l rest hf
  | cond z x y ihx ihy =>
    refine ⟨?_, fun _ _ h => by cases h⟩
    replace ihx := ihx.1
    replace ihy := ihy.1
    intro X ro wn B ac Q g w σ e a hc hw hR hE hd hB
    simp only [compileCode] at hc
    split at hc
    · rename_i az ax ay h1 h2 h3
      cases hc
      have v1 := cX_rel h1 hE
      simp only [wpA] at hw
      generalize AX.ev e az = zv at v1 hw
      generalize hev : a.eval z = cv at v1
      cases v1 <;> simp only at hw
      rename_i t
      refine wpIn_cond_split hev (fun ht => ?_) (fun ht => ?_)
      · exact ihx X ro wn B ax Q g w σ e a h2 (hw.1 ht) hR hE hd (hB.sub (by simp [ACode.rngs]; exact fun h => .inl h))
      · exact ihy X ro wn B ay Q g w σ e a h3 (hw.2 ht) hR hE hd (hB.sub (by simp [ACode.rngs]; exact fun h => .inr h))
    · cases hc
  | block id x ih =>
    refine ⟨?_, fun _ _ h => by cases h⟩
    replace ih := ih.1
    intro X ro wn B ac Q g w σ e a hc hw hR hE hd hB
    simp only [compileCode, Option.map_eq_some_iff] at hc
    obtain ⟨ax, h1, rfl⟩ := hc
    refine wpIn_block (wpIn_mono (ih X ro wn B ax _ g w σ e a h1 hw hR hE hd (hB.sub (by simp [ACode.rngs]))) ?_)
    rintro ex a' w' ⟨g', e', σ', r1, r2, r3, r4, r5⟩
    cases ex with
    | exit i =>
      simp only [blockQ] at r5
      simp only [Exit.inBlock]
      split
      · rename_i e1; rw [if_pos e1] at r5; exact ⟨g', e', σ', r1, r2, r3, r4, r5⟩
      · rename_i e1; rw [if_neg e1] at r5; exact ⟨g', e', σ', r1, r2, r3, r4, r5⟩
    | normal => exact ⟨g', e', σ', r1, r2, r3, r4, r5⟩
    | goto l => exact ⟨g', e', σ', r1, r2, r3, r4, r5⟩
    | ret => exact ⟨g', e', σ', r1, r2, r3, r4, r5⟩
    | panic ch => exact ⟨g', e', σ', r1, r2, r3, r4, r5⟩
    | outgrown => exact r5.elim
  | loop x ih =>
    refine ⟨?_, fun _ _ h => by cases h⟩
    replace ih := ih.1
    intro X ro wn B ac Q g w σ e a hc hw hR hE hd hB
    simp only [compileCode, Option.map_eq_some_iff] at hc
    obtain ⟨ax, h1, rfl⟩ := hc
    obtain ⟨I, ⟨n0, hI⟩, hround⟩ := hw
    have key : ∀ (n : Nat) (g1 : Ghost) (w1 : World) (σ1 : Store) (e1 : Env) (a1 : Act), I n e1 σ1 → Rel g1 w1 σ1 → EnvR nt g1 w1 e1 a1.tmps → DefOk X B σ1 g1 w1 a1.defers → Low (.loop ax) B w1 →
        ∀ (b : Frame) (k : List Item) (cs : List Frame), b.roundOf = ro → ∃ ex a' w', QR X nt B g1 w1 σ1 Q ex a' w' ∧ ArrivesIn (Machine.fenced P (WF ro)) P (lone (b.atR a1 (.code x :: .inLoop x :: k)) cs w1) b k cs ex a' w' := by
      intro n
      induction n using Nat.strongRecOn with
      | _ n ihn =>
        intro g1 w1 σ1 e1 a1 hI1 hR1 hE1 hd1 hB1 b k cs hro
        obtain ⟨ex, a', w', hq, harr⟩ := ih X ro wn B ax _ g1 w1 σ1 e1 a1 h1 (hround n e1 σ1 hI1) hR1 hE1 hd1 (hB1.sub (by simp [ACode.rngs])) b (.inLoop x :: k) cs hro trivial (wf_room _ _)
        obtain ⟨g', e', σ', r1, r2, r3, r4, r5⟩ := hq
        cases ex with
        | normal =>
          obtain ⟨m, hlt, hI2⟩ := r5
          obtain ⟨ex2, a2, w2, hq2, harr2⟩ := ihn m hlt g' w' σ' e' a' hI2 r2 r3 r1 (hB1.size r4.size) b k cs hro
          exact ⟨ex2, a2, w2, hq2.step r4, .of_steps (StepsIn.trans harr (.one (wf_fenced ro P _) stepR_inLoop)) harr2⟩
        | exit id => exact ⟨_, a', w', ⟨g', e', σ', r1, r2, r3, r4, r5⟩, .pass (x := .inLoop x) rfl (fun _ _ => .inl (by simp)) harr⟩
        | goto l => exact ⟨_, a', w', ⟨g', e', σ', r1, r2, r3, r4, r5⟩, .pass (x := .inLoop x) rfl (fun _ _ => .inl (by simp)) harr⟩
        | ret => exact ⟨_, a', w', ⟨g', e', σ', r1, r2, r3, r4, r5⟩, .pass (x := .inLoop x) rfl (fun _ _ => .inl (by simp)) harr⟩
        | panic ch => exact ⟨_, a', w', ⟨g', e', σ', r1, r2, r3, r4, r5⟩, .pass (x := .inLoop x) rfl (fun _ _ => .inl (by simp)) harr⟩
        | outgrown => exact r5.elim
    intro b k cs hro hF hr
    obtain ⟨ex, a', w', hq, harr⟩ := key _ g w σ e a hI hR hE hd hB b k cs hro
    exact ⟨ex, a', w', hq, .of_steps (.one (wf_fenced ro P _) stepR_loop) harr⟩
  | exit id => exact ⟨fun X ro wn B ac Q g w σ e a hc hw hR hE hd hB => by cases hc; exact wpIn_exit ⟨g, e, σ, hd, hR, hE, .refl _ _ _, hw⟩, fun _ _ h => by cases h⟩
  | ret => exact ⟨fun X ro wn B ac Q g w σ e a hc hw hR hE hd hB => by cases hc; exact wpIn_ret ⟨g, e, σ, hd, hR, hE, .refl _ _ _, hw⟩, fun _ _ h => by cases h⟩
  | rangeFunc f ps x y ihx ihy => exact ⟨rng_sound ihx.1 ihy.1, fun _ _ h => by cases h⟩
  | refuse s => exact ⟨fun X ro wn B ac Q g w σ e a hc hw => (by cases hc; exact hw.elim), fun _ _ h => by cases h⟩
  | goto l => exact ⟨fun X ro wn B ac Q g w σ e a hc hw hR hE hd hB => by cases hc; exact wpIn_goto ⟨g, e, σ, hd, hR, hE, .refl _ _ _, hw⟩, fun _ _ h => by cases h⟩
  | label l =>
    refine ⟨fun X ro wn B ac Q g w σ e a hc hw hR hE hd hB => by cases hc; exact wpIn_label ⟨g, e, σ, hd, hR, hE, .refl _ _ _, hw⟩, fun l' rest hf => ?_⟩
    simp only [findLabel] at hf
    split at hf
    · cases hf; exact sound_skip
    · cases hf
  | scope x ih =>
    refine ⟨?_, fun _ _ h => by cases h⟩
    intro X ro wn B ac Q g w σ e a hc hw hR hE hd hB
    simp only [compileCode] at hc
    split at hc
    · rename_i ax h1
      split at hc
      · rename_i l _
        split at hc
        · rename_i ar h2
          cases hc
          obtain ⟨rest, hf, hcr⟩ := find_compile x ax ar h1 h2
          have hs := ih.2 l rest hf
          obtain ⟨J, hfirst, hpass⟩ := hw
          intro b k cs hro hF hr
          have hfe : ∀ m : Machine, m.fenced P (WF ro) := wf_fenced ro P
          have hg : gotoIn l (.inScope x :: k) = some (.code rest :: .inScope x :: k) := by simp [gotoIn, hf]
          have key : ∀ (n : Nat) (g1 : Ghost) (w1 : World) (σ1 : Store) (e1 : Env) (a1 : Act), J n e1 σ1 → Rel g1 w1 σ1 → EnvR nt g1 w1 e1 a1.tmps → DefOk X B σ1 g1 w1 a1.defers → Low ax B w1 →
              ∃ ex a' w', QR X nt B g1 w1 σ1 Q ex a' w' ∧ ArrivesIn (Machine.fenced P (WF ro)) P (lone (b.atR a1 (.code rest :: .inScope x :: k)) cs w1) b k cs ex a' w' := by
            intro n
            induction n using Nat.strongRecOn with
            | _ n ihn =>
              intro g1 w1 σ1 e1 a1 hJ1 hR1 hE1 hd1 hB1
              obtain ⟨ex, a', w', hq, harr⟩ := hs X ro wn B ar _ g1 w1 σ1 e1 a1 hcr (hpass n e1 σ1 hJ1) hR1 hE1 hd1 (hB1.sub (find_rngs ax l ar h2)) b (.inScope x :: k) cs hro trivial (wf_room _ _)
              obtain ⟨g', e', σ', r1, r2, r3, r4, r5⟩ := hq
              cases ex with
              | normal => exact ⟨.normal, a', w', ⟨g', e', σ', r1, r2, r3, r4, r5⟩, StepsIn.trans harr (.one (hfe _) stepR_inScope)⟩
              | exit id => exact ⟨.exit id, a', w', ⟨g', e', σ', r1, r2, r3, r4, r5⟩, fun k' hk => harr.1 k' (by simp [exitTo, hk]), fun hrr hk => harr.2 hrr (by simp [exitTo, hk])⟩
              | goto l' =>
                obtain ⟨rfl, m, hlt, hJ2⟩ := r5
                obtain ⟨ex2, a2, w2, hq2, harr2⟩ := ihn m hlt g' w' σ' e' a' hJ2 r2 r3 r1 (hB1.size r4.size)
                exact ⟨ex2, a2, w2, hq2.step r4, .of_steps (harr.1 _ hg) harr2⟩
              | ret => exact ⟨.ret, a', w', ⟨g', e', σ', r1, r2, r3, r4, r5⟩, harr⟩
              | panic ch => exact ⟨.panic ch, a', w', ⟨g', e', σ', r1, r2, r3, r4, r5⟩, harr⟩
              | outgrown => exact r5.elim
          obtain ⟨ex, a', w', hq, harr⟩ := ih.1 X ro wn B ax _ g w σ e a h1 hfirst hR hE hd (hB.sub (by simp [ACode.rngs])) b (.inScope x :: k) cs hro trivial (wf_room _ _)
          obtain ⟨g', e', σ', r1, r2, r3, r4, r5⟩ := hq
          cases ex with
          | normal => exact ⟨.normal, a', w', ⟨g', e', σ', r1, r2, r3, r4, r5⟩, .head (hfe _) stepR_scope (StepsIn.trans harr (.one (hfe _) stepR_inScope))⟩
          | exit id => exact ⟨.exit id, a', w', ⟨g', e', σ', r1, r2, r3, r4, r5⟩, fun k' hk => .head (hfe _) stepR_scope (harr.1 k' (by simp [exitTo, hk])), fun hrr hk => let ⟨k1, p1, p2⟩ := harr.2 hrr (by simp [exitTo, hk]); ⟨k1, p1, .head (hfe _) stepR_scope p2⟩⟩
          | goto l' =>
            obtain ⟨rfl, n0, hJ2⟩ := r5
            obtain ⟨ex2, a2, w2, hq2, harr2⟩ := key _ g' w' σ' e' a' hJ2 r2 r3 r1 ((hB.sub (by simp [ACode.rngs])).size r4.size)
            exact ⟨ex2, a2, w2, hq2.step r4, .of_steps (.head (hfe _) stepR_scope (harr.1 _ hg)) harr2⟩
          | ret => exact ⟨.ret, a', w', ⟨g', e', σ', r1, r2, r3, r4, r5⟩, .of_steps (.one (hfe _) stepR_scope) harr⟩
          | panic ch => exact ⟨.panic ch, a', w', ⟨g', e', σ', r1, r2, r3, r4, r5⟩, .of_steps (.one (hfe _) stepR_scope) harr⟩
          | outgrown => exact r5.elim
        · cases hc
      · cases hc
    · cases hc
theorem code_sound {nt : Nat} {h : Hints} (c : Code) : Sound P nt h c := (code_sound2 c).1
inductive ARes where
  | tmp (t : Nat)
  | cell (t : Nat) (ag : Bool) (n : Nat)
structure AFunc where
  nt : Nat
  results : List ARes
  body : ACode
def compileRes (P : Program) (nt : Nat) : List ResultVar → Option (List ARes)
  | [] => some []
  | .tmp t :: r => if t < nt then (compileRes P nt r).map (.tmp t :: ·) else none
  | .cell a t :: r => match tyAg P t, P.info? t with
    | some ag, some i => if a < nt && (ag || i.size == 1) then (compileRes P nt r).map (.cell a ag i.size :: ·) else none
    | _, _ => none
def compileF (P : Program) (h : Hints) (fn : Func) : Option AFunc :=
  match fn.body with
  | some c => match compileCode P fn.ntmps h false c, compileRes P fn.ntmps fn.results.toList with
    | some b, some rs => some ⟨fn.ntmps, rs, b⟩
    | _, _ => none
  | none => none
def resA (e : Env) (σ : Store) : List ARes → (List AV → Prop) → Prop
  | [], K => K []
  | .tmp t :: r, K => resA e σ r fun vs => K (e t :: vs)
  | .cell t ag n :: r, K => loadA σ ag n (e t) fun v => resA e σ r fun vs => K (v :: vs)
def oneOf : List AV → AV
  | [v] => v
  | vs => .tup vs
def retQ (rs : List ARes) (R : Out → Store → Prop) : AQ
  | .normal, e, σ => resA e σ rs fun vs => R (.ret (oneOf vs)) σ
  | .ret, e, σ => resA e σ rs fun vs => R (.ret (oneOf vs)) σ
  | .panic v, _, σ => R (.panic v) σ
  | _, _, _ => False
def envOf (args : List AV) : Env := fun n => args.getD n .undef
theorem res_sound {nt : Nat} {g : Ghost} {w : World} {σ : Store} {e : Env} {tmps : Array Value} (hR : Rel g w σ) (hE : EnvR nt g w e tmps) : ∀ (rv : List ResultVar) (rs : List ARes) (K : List AV → Prop), compileRes P nt rv = some rs → resA e σ rs K →
    ∃ (avs : List AV) (us : List Value), (rv.mapM fun (r : ResultVar) => (match r with
      | ResultVar.tmp t => pure (tmps.getD t Go.undef)
      | ResultVar.cell a t => do loadVar t (← asAddr (tmps.getD a Go.undef)) : Sem Value)).run P w = Result.ok us w ∧ avs.length = us.length ∧ (∀ i, i < avs.length → VR g w (avs.getD i .undef) (us.getD i Go.undef)) ∧ K avs := by
  intro rv
  induction rv with
  | nil => intro rs K h hK; cases h; exact ⟨[], [], rfl, rfl, fun i hi => absurd hi (Nat.not_lt_zero _), hK⟩
  | cons r rv ih =>
    intro rs K h hK
    cases r with
    | tmp t =>
      simp only [compileRes] at h
      split at h
      · rename_i ht
        simp only [Option.map_eq_some_iff] at h
        obtain ⟨rs', h1, rfl⟩ := h
        obtain ⟨avs, us, r1, r2, r3, r4⟩ := ih rs' _ h1 hK
        refine ⟨e t :: avs, tmps.getD t Go.undef :: us, ?_, by simp [r2], fun i hi => ?_, r4⟩
        · rw [List.mapM_cons, Sem.run_bind]
          simp only [Sem.run_pure, Result.andThen_ok, Sem.run_bind, r1]
        · cases i with
          | zero => simpa using hE.rel t ht
          | succ i => simpa using r3 i (by simpa using hi)
      · cases h
    | cell a t =>
      simp only [compileRes] at h
      split at h
      · rename_i ag ti hA hi
        split at h
        · rename_i hh
          simp only [Bool.and_eq_true, decide_eq_true_eq, Bool.or_eq_true, beq_iff_eq] at hh
          simp only [Option.map_eq_some_iff] at h
          obtain ⟨rs', h1, rfl⟩ := h
          have hone : ag = false → ti.size = 1 := fun e1 => by
            rcases hh.2 with h | h
            · rw [e1] at h; cases h
            · exact h
          have hv := hE.rel a hh.1
          obtain ⟨u, av, l1, l2, l3⟩ := load_pure (P := P) hR hA hi hone hv hK
          obtain ⟨A, hA'⟩ : ∃ A, tmps.getD a Go.undef = .pointer (some A) := by
            simp only [resA] at hK
            generalize e a = p at hv hK
            generalize tmps.getD a Go.undef = pv at hv
            cases hv <;> simp only [loadA] at hK
            · rename_i h; obtain ⟨_, A, h, _⟩ := h; exact ⟨A, h⟩
            · exact ⟨_, rfl⟩
            · rename_i h; obtain ⟨_, _, A, h, _⟩ := h; exact ⟨A, h⟩
          obtain ⟨avs, us, r1, r2, r3, r4⟩ := ih rs' _ h1 l3
          refine ⟨av :: avs, u :: us, ?_, by simp [r2], fun i hi => ?_, r4⟩
          · rw [hA'] at l1
            simp only [Instr.loadAt, Instr.sureAddr, Sem.run_bind, Sem.run_pure, Result.andThen_ok] at l1
            have ha : (asAddr (tmps.getD a Go.undef)).run P w = .ok A w := by rw [hA']; rfl
            rw [List.mapM_cons, Sem.run_bind]
            simp only [Sem.run_bind, ha, Result.andThen_ok, l1, r1, Sem.run_pure]
          · cases i with
            | zero => simpa using l2
            | succ i => simpa using r3 i (by simpa using hi)
        · cases h
      · cases h
theorem results_run {fn : Func} {tmps : Array Value} {us : List Value} {w : World} (h : (fn.results.toList.mapM fun (r : ResultVar) => (match r with
      | ResultVar.tmp t => pure (tmps.getD t Go.undef)
      | ResultVar.cell a t => do loadVar t (← asAddr (tmps.getD a Go.undef)) : Sem Value)).run P w = Result.ok us w) :
    (results fn tmps).run P w = .ok (if h : us.toArray.size = 1 then us.toArray[0] else .tuple us.toArray) w := by
  unfold results
  rw [Array.mapM_eq_mapM_toList]
  simp only [Sem.run_bind, Sem.run_map]
  exact (congrArg (fun r : Result (List Value) => (r.andThen fun a w' => Result.ok a.toArray w').andThen fun a w' => Sem.run P (pure (if h : a.size = 1 then a[0] else Value.tuple a) : Sem Value) w') h).trans rfl
theorem leaves_marks {nt : Nat} {fn : Func} {tmps : Array Value} {R : Ending → World → Prop} {g0 : Ghost} {w0 : World} {σ0 : Store} {g : Ghost} {σ : Store} {e : Env} {u : FrameMode} {X : List Deferred} (hu : u ≠ .run) : ∀ (ds : List Deferred) (w : World),
    MarkOk (fun D => w0.heap.size ≤ D) σ g w ds → Rel g w σ → EnvR nt g w e tmps → Evo σ0 g0 w0 σ g w → (∀ w2, Rel g w2 σ → EnvR nt g w2 e tmps → Evo σ0 g0 w0 σ g w2 → Mono g w g w2 → LeavesInM (WF none) 0 P fn tmps R X u w2) → LeavesInM (WF none) 0 P fn tmps R (ds ++ X) u w
  | [], w, _, hR, hE, hv, hfin => hfin w hR hE hv (.refl _ _)
  | d :: ds, w, hd, hR, hE, hv, hfin => by
    obtain ⟨D, h1, h2, h3, h4, h5⟩ := hd.mark d (by simp)
    obtain ⟨r1, r2, r3⟩ := hR.putRaw (w' := w.putObj D (.deferred none)) hv h2 h4 h5 (by simp) rfl rfl rfl (fun c hc => World.putObj_heap_other hc)
    refine ⟨hu, .inl ⟨D, _, by rw [h1], run_takeDeferred h3, leaves_marks hu ds _ ⟨(List.nodup_cons.1 hd.nodup).2, fun d' hd' => ?_⟩ r1 (hE.mono r3) r2 (fun w2 a1 a2 a3 a4 => hfin w2 a1 a2 a3 (r3.trans a4))⟩⟩
    obtain ⟨D', k1, k2, k3, k4, k5⟩ := hd.mark d' (by simp [hd'])
    refine ⟨D', k1, k2, (World.putObj_heap_other (fun e => ?_)).trans k3, k4, k5⟩
    subst e
    exact (List.nodup_cons.1 hd.nodup).1 (by rw [h1, ← k1]; exact hd')
theorem out_rel {g : Ghost} {w : World} {avs : List AV} {us : List Value} (r2 : avs.length = us.length) (r3 : ∀ i, i < avs.length → VR g w (avs.getD i .undef) (us.getD i Go.undef)) : VR g w (oneOf avs) (if h : us.toArray.size = 1 then us.toArray[0] else .tuple us.toArray) := by
  match avs, us, r2, r3 with
  | [av], [u], _, r3 => simpa [oneOf] using r3 0 (by simp)
  | [], [], _, r3 => exact .tup [] #[] rfl (fun i hi => absurd hi (Nat.not_lt_zero _))
  | a1 :: a2 :: az, u1 :: u2 :: us, r2, r3 =>
    have : ¬ (u1 :: u2 :: us).toArray.size = 1 := by simp
    rw [dif_neg this]
    exact .tup _ _ (by simpa using r2) (fun i hi => by simpa using r3 i hi)
theorem bodyPost_of {nt : Nat} {fn : Func} {rs : List ARes} {g : Ghost} {w : World} {σ : Store} {R : Out → Store → Prop} {ex : Exit} {a : Act} {w' : World} (hrs : compileRes P nt fn.results.toList = some rs)
    (h : QR [] nt (fun D => w.heap.size ≤ D) g w σ (retQ rs R) ex a w') : bodyPostM (WF none) 0 P fn (fun e w' => ∃ out g' σ', Rel g' w' σ' ∧ Evo σ g w σ' g' w' ∧ OutR g' w' out e ∧ R out σ') ex a w' := by
  obtain ⟨g', e', σ', ⟨ms, hms, h1⟩, h2, h3, h4, h5⟩ := h
  have done : resA e' σ' rs (fun vs => R (.ret (oneOf vs)) σ') → LeavesInM (WF none) 0 P fn a.tmps (fun e w' => ∃ out g' σ', Rel g' w' σ' ∧ Evo σ g w σ' g' w' ∧ OutR g' w' out e ∧ R out σ') a.defers .returning w' := fun hres => by
    rw [hms]
    refine leaves_marks (by simp) ms w' h1 h2 h3 h4 (fun w2 h2 h3 h4 _ => ?_)
    obtain ⟨avs, us, r1, r2, r3, r4⟩ := res_sound (P := P) h2 h3 fn.results.toList rs _ hrs hres
    exact ⟨_, results_run r1, .ret (oneOf avs), g', σ', h2, h4, out_rel r2 r3, r4⟩
  cases ex with
  | normal => exact done h5
  | ret => exact done h5
  | panic chain =>
    obtain ⟨v, av, rfl, hv, hq⟩ := h5
    show LeavesInM (WF none) 0 P fn a.tmps _ a.defers _ w'
    rw [hms]
    exact leaves_marks (by simp) ms w' h1 h2 h3 h4 (fun w2 h2 h3 h4 hm => ⟨.panic av, g', σ', h2, h4, ⟨v, rfl, hv.mono hm⟩, hq⟩)
  | exit id => exact h5.elim
  | goto l => exact h5.elim
  | outgrown => exact h5.elim
theorem CallA.of_wp {f : FuncId} {fn : Func} {h : Hints} {af : AFunc} {args : List AV} {σ : Store} {R : Out → Store → Prop} (hf : P.funcs[f]? = some fn) (hn : (fn.name == "runtime.NumGoroutine") = false) (hc : compileF P h fn = some af)
    (hl : args.length ≤ af.nt) (hw : wpA P af.body (retQ af.results R) (envOf args) σ) : CallA P f args σ R := by
  unfold compileF at hc
  split at hc
  · rename_i c hb
    split at hc
    · rename_i b rs h1 h2
      cases hc
      refine ⟨⟨fn, hf, by simp [hb], hn⟩, fun g w vs hR hlen hv => ?_⟩
      refine callsWF.1 (callsIn_of_wp_marks (F := WF none) (n := 0) hf hb trivial (wpIn_mono (code_sound c [] none 0 (fun D => w.heap.size ≤ D) b _ g w σ (envOf args) _ h1 hw hR ⟨?_, fun t ht => ?_⟩ (DefOk.nil _ _ _ _ _) (Low.at _ _)) fun ex a w' hq => bodyPost_of h2 hq))
      · simp only at hl
        simp; omega
      · by_cases h : t < args.length
        · have h3 : t < vs.size := by omega
          have := hv t h
          simp only [envOf]
          rw [Array.getD_eq_getD_getElem?, Array.getElem?_append_left h3]
          simpa using this
        · have : envOf args t = .undef := by simp [envOf, List.getElem?_eq_none (Nat.le_of_not_lt h)]
          rw [this]
          exact .undef _
    · cases hc
  · cases hc
end
end Go.AM
