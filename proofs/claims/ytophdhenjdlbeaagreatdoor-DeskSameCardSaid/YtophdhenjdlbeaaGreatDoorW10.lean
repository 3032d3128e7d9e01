/- Part of a proof: see Root. -/
import Derived.Test.YtophdhenjdlbeaaGreatDoorW09
set_option linter.unnecessarySimpa false
set_option linter.unusedSectionVars false
set_option linter.unusedSimpArgs false
set_option linter.unusedVariables false
namespace Go.AM
inductive AExit where
  | normal
  | exit (id : Nat)
  | goto (l : Nat)
  | ret
  | panic (v : AV)
structure GOp where
  op : AOp
  dst : Option Nat
  guard : Option (Nat × Bool)
abbrev AQ := AExit → Env → Store → Prop
def runOps (P : Program) (Q : AQ) : List GOp → Env → Store → Prop
  | [], e, σ => Q .normal e σ
  | ⟨o, d, none⟩ :: r, e, σ => o.run P e σ (fun v σ' => runOps P Q r (upd e d v) σ') (fun v σ' => Q (.panic v) e σ')
  | ⟨o, d, some (k, b)⟩ :: r, e, σ => match e k with
    | .bool t => (t = b → o.run P (upd e (some k) (.bool b)) σ (fun v σ' => runOps P Q r (upd (upd e (some k) (.bool b)) d v) σ') (fun v σ' => Q (.panic v) (upd e (some k) (.bool b)) σ')) ∧
        (t = !b → runOps P Q r (upd (upd e (some k) (.bool (!b))) d (.tup [])) σ)
    | .tup [] => runOps P Q r (upd e d (.tup [])) σ
    | _ => False
inductive ACode where
  | skip
  | region (ops : List GOp)
  | draw (ops : List GOp) (prs : List (AX × AX))
  | seq (a b : ACode)
  | cond (c : AX) (thn els : ACode)
  | block (id : Nat) (body : ACode)
  | loop (body : ACode)
  | exit (id : Nat)
  | ret
  | scope (l : Nat) (body rest : ACode)
  | label (l : Nat)
  | goto (l : Nat)
  | rng (f : AX) (nt : Nat) (ps : List Nat) (ca cb : Code) (asg body : ACode)
  | stop
def ACode.rngs : ACode → Bool
  | .seq a b => a.rngs || b.rngs
  | .cond _ a b => a.rngs || b.rngs
  | .block _ a => a.rngs
  | .loop a => a.rngs
  | .scope _ a _ => a.rngs
  | .rng .. => true
  | _ => false
def Low (ac : ACode) (B : Nat → Prop) (w : World) : Prop := ac.rngs = true → ∀ D, w.heap.size ≤ D → B D
theorem Low.size {ac : ACode} {B : Nat → Prop} {w w' : World} (h : Low ac B w) (hs : w.heap.size ≤ w'.heap.size) : Low ac B w' := fun hr D hD => h hr D (Nat.le_trans hs hD)
theorem Low.sub {ac ad : ACode} {B : Nat → Prop} {w : World} (h : Low ac B w) (hs : ad.rngs = true → ac.rngs = true) : Low ad B w := fun hr => h (hs hr)
theorem Low.at (ac : ACode) (w : World) : Low ac (fun D => w.heap.size ≤ D) w := fun _ _ h => h
def thenQ (K : Env → Store → Prop) (Q : AQ) : AQ
  | .normal, e, σ => K e σ
  | x, e, σ => Q x e σ
def blockQ (id : Nat) (Q : AQ) : AQ
  | .exit i, e, σ => if i = id then Q .normal e σ else Q (.exit i) e σ
  | x, e, σ => Q x e σ
def apartAll : List (AX × AX) → Env → Prop
  | [], _ => True
  | (x, y) :: r, e => apartA (x.ev e) (y.ev e) ∧ apartAll r e
def condQ (prs : List (AX × AX)) (Q : AQ) : AQ
  | .normal, e, σ => apartAll prs e ∧ Q .normal e σ
  | x, e, σ => Q x e σ
theorem condQ_le {prs : List (AX × AX)} {Q : AQ} : ∀ {ex e σ}, condQ prs Q ex e σ → Q ex e σ := fun {ex e σ} h => by
  cases ex <;> first | exact h.2 | exact h
def LoopA (body : AQ → Env → Store → Prop) (Q : AQ) (e : Env) (σ : Store) : Prop :=
  ∃ (I : Nat → Env → Store → Prop), (∃ n, I n e σ) ∧ ∀ n e σ, I n e σ → body (thenQ (fun e' σ' => ∃ m, m < n ∧ I m e' σ') Q) e σ
def jumpQ (l : Nat) (J : Env → Store → Prop) (Q : AQ) : AQ
  | .goto l', e, σ => l' = l ∧ J e σ
  | x, e, σ => Q x e σ
def ScopeA (l : Nat) (body rest : AQ → Env → Store → Prop) (Q : AQ) (e : Env) (σ : Store) : Prop :=
  ∃ (J : Nat → Env → Store → Prop), body (jumpQ l (fun e σ => ∃ n, J n e σ) Q) e σ ∧ ∀ n e σ, J n e σ → rest (jumpQ l (fun e' σ' => ∃ m, m < n ∧ J m e' σ') Q) e σ
def putArgs : List Nat → List AV → Env → Env
  | p :: ps, a :: az, e => putArgs ps az (upd e (some p) a)
  | _, _, e => e
def asgQ (l : Nat) (o o' : AObj) (B : Env → Store → Prop) : AQ
  | .normal, e, σ => σ[l]? = some o ∧ B e (σ.set l o')
  | _, _, _ => False
def rndQ (l : Nat) (o : LoopState → Option Code → AObj) (R : Out → Store → Prop) : AQ
  | .normal, _, σ => σ[l]? = some (o .busy none) ∧ R (.ret (.bool true)) (σ.set l (o .ready none))
  | .ret, _, σ => σ[l]? = some (o .busy none) ∧ R (.ret (.bool false)) (σ.set l (o .done (some .ret)))
  | .exit i, _, σ => σ[l]? = some (o .busy none) ∧ R (.ret (.bool false)) (σ.set l (o .done (some (.exit i))))
  | .goto i, _, σ => σ[l]? = some (o .busy none) ∧ R (.ret (.bool false)) (σ.set l (o .done (some (.goto i))))
  | .panic _, _, _ => False
def endQ (l : Nat) (o : LoopState → Option Code → AObj) (Q : AQ) (e : Env) : Out → Store → Prop
  | .ret _, σ => ∃ st pe, σ[l]? = some (o st pe) ∧ st ≠ .busy ∧ match pe with
      | none => Q .normal e (σ.set l .dead)
      | some .ret => Q .ret e (σ.set l .dead)
      | some (.exit i) => Q (.exit i) e (σ.set l .dead)
      | some (.goto i) => Q (.goto i) e (σ.set l .dead)
      | _ => False
  | .panic v, σ => Q (.panic v) e σ
def RngA (P : Program) (nt : Nat) (ps : List Nat) (ca cb : Code) (f : AV) (asg body : AQ → Env → Store → Prop) (Q : AQ) (e : Env) (σ : Store) : Prop :=
  match f with
  | .fn (.func n) first cap => ∀ o : LoopState → Option Code → AObj, (∀ st pe, o st pe = .loop nt e ps.toArray ca cb st pe) →
      (∀ σ' args R, σ'[σ.length]? = some (o .ready none) → args.length = ps.length →
        asg (asgQ σ.length (o .ready none) (o .busy none) (body (rndQ σ.length o R))) (putArgs ps args e) σ' → YieldA P σ.length args σ' R) →
      CallA P n (first ++ [.yld σ.length] ++ cap) (σ ++ [o .ready none]) (endQ σ.length o Q e)
  | _ => False
def wpA (P : Program) : ACode → AQ → Env → Store → Prop
  | .skip, Q, e, σ => Q .normal e σ
  | .region ops, Q, e, σ => runOps P Q ops e σ
  | .draw ops prs, Q, e, σ => runOps P (condQ prs Q) ops e σ
  | .seq a b, Q, e, σ => wpA P a (thenQ (wpA P b Q) Q) e σ
  | .cond c a b, Q, e, σ => match c.ev e with
    | .bool t => (t = true → wpA P a Q e σ) ∧ (t = false → wpA P b Q e σ)
    | _ => False
  | .block id c, Q, e, σ => wpA P c (blockQ id Q) e σ
  | .loop c, Q, e, σ => LoopA (wpA P c) Q e σ
  | .exit id, Q, e, σ => Q (.exit id) e σ
  | .ret, Q, e, σ => Q .ret e σ
  | .scope l c r, Q, e, σ => ScopeA l (wpA P c) (wpA P r) Q e σ
  | .label _, Q, e, σ => Q .normal e σ
  | .goto l, Q, e, σ => Q (.goto l) e σ
  | .rng f nt ps ca cb asg body, Q, e, σ => RngA P nt ps ca cb (f.ev e) (wpA P asg) (wpA P body) Q e σ
  | .stop, _, _, _ => False
structure MarkOk (B : Nat → Prop) (σ : Store) (g : Ghost) (w : World) (ds : List Deferred) : Prop where
  nodup : ds.Nodup
  mark : ∀ d ∈ ds, ∃ D, d = { target := .collected D, args := #[] } ∧ B D ∧ w.heap[D]? = some (.deferred (some [])) ∧ ¬ Tracked σ g D ∧ ¬ g.imm D
theorem MarkOk.step {B : Nat → Prop} {σ σ' : Store} {g g' : Ghost} {w w' : World} {ds : List Deferred} (h : MarkOk B σ g w ds) (hev : Evo σ g w σ' g' w') : MarkOk B σ' g' w' ds := by
  refine ⟨h.nodup, fun d hd => ?_⟩
  obtain ⟨D, h1, h2, h3, h4, h5⟩ := h.mark d hd
  have hlt : D < w.heap.size := (Array.getElem?_eq_some_iff.1 h3).1
  exact ⟨D, h1, h2, (hev.frame D hlt h4).trans h3, fun ht => h4 (hev.trk D hlt ht), fun hi => (hev.immold D hlt hi).elim h5 h4⟩
def DefOk (X : List Deferred) (B : Nat → Prop) (σ : Store) (g : Ghost) (w : World) (ds : List Deferred) : Prop := ∃ ms, ds = ms ++ X ∧ MarkOk B σ g w ms
theorem DefOk.nil (X : List Deferred) (B : Nat → Prop) (σ : Store) (g : Ghost) (w : World) : DefOk X B σ g w X := ⟨[], rfl, List.nodup_nil, fun _ h => by cases h⟩
theorem DefOk.step {X : List Deferred} {B : Nat → Prop} {σ σ' : Store} {g g' : Ghost} {w w' : World} {ds : List Deferred} (h : DefOk X B σ g w ds) (hev : Evo σ g w σ' g' w') : DefOk X B σ' g' w' ds :=
  let ⟨ms, h1, h2⟩ := h; ⟨ms, h1, h2.step hev⟩
def QR (X : List Deferred) (nt : Nat) (B : Nat → Prop) (g : Ghost) (w : World) (σ : Store) (Q : AQ) (ex : Exit) (a : Act) (w' : World) : Prop :=
  ∃ g' e' σ', DefOk X B σ' g' w' a.defers ∧ Rel g' w' σ' ∧ EnvR nt g' w' e' a.tmps ∧ Evo σ g w σ' g' w' ∧
    match ex with
    | .normal => Q .normal e' σ'
    | .exit id => Q (.exit id) e' σ'
    | .goto l => Q (.goto l) e' σ'
    | .ret => Q .ret e' σ'
    | .panic chain => ∃ v av, chain = [{ v, recovered := false }] ∧ VR g' w' av v ∧ Q (.panic av) e' σ'
    | .outgrown => False
section
variable {P : Program}
theorem Oper.wp_mono2 {F : Fence} {wn : Nat} {o : Oper} {a : Act} {w : World} {K K' : Act → World → Prop} {Q Q' : Exit → Act → World → Prop} (h : ∀ a w, K a w → K' a w) (hq : ∀ e a w, Q e a w → Q' e a w)
    (hh : o.wpIn F wn P a w K Q) : o.wpIn F wn P a w K' Q' := by
  unfold Oper.wpIn at *
  refine ⟨hh.1, ?_⟩
  replace hh := hh.2
  generalize (o.semAt F.round a.eval).run P w = r at *
  cases r with
  | ok n w' =>
    cases n <;> simp only [Oper.uponIn] at hh ⊢ <;>
      first
        | exact h _ _ hh
        | exact ⟨hh.1, CallsIn.mono hh.2 (fun e w'' he => by
            cases e <;> first
              | exact h _ _ he
              | exact hq _ _ _ he
              | (obtain ⟨a0, w0, he⟩ := he; exact ⟨a0, w0, hq _ _ _ he⟩))⟩
        | exact ⟨hh.1, RoundIn.mono hh.2 (fun e w'' he => by
            cases e <;> first
              | exact h _ _ he
              | exact hq _ _ _ he
              | (obtain ⟨a0, w0, he⟩ := he; exact ⟨a0, w0, hq _ _ _ he⟩))⟩
        | exact ⟨hh.1, RowsIn.mono hh.2 (fun _ _ he => h _ _ he)⟩
  | halt x w' =>
    cases x <;> simp only [Oper.uponIn] at hh ⊢ <;> first
      | exact hq _ _ _ hh
      | exact hh
theorem put_defers (a : Act) (d : Option Tmp) (v : Value) : (a.put d v).defers = a.defers := by cases d <;> rfl
theorem wanted_of {nt : Nat} {g : Ghost} {w : World} {e : Env} {a : Act} {ops : Array Oper} {o : Oper} {k : Nat} {j : Nat} {b : Bool} (hE : EnvR nt g w e a.tmps) (hg : o.guard = some (j, b)) (hd : (ops[j]?).bind (·.dst) = some k) (hk : k < nt) :
    (∀ t, e k = .bool t → Region.wanted o (yielded ops a.tmps) = (t == b)) ∧ (e k = .tup [] → Region.wanted o (yielded ops a.tmps) = false) := by
  have hv := hE.rel k hk
  have hlt : k < a.tmps.size := by rw [hE.size]; exact hk
  have hget : a.tmps[k]? = some (a.tmps.getD k Go.undef) := by simp [hlt]
  constructor
  · intro t ht
    rw [ht] at hv
    generalize a.tmps.getD k Go.undef = v at hv hget
    cases hv
    simp only [Region.wanted, hg, yielded, hd, Option.bind_some, hget]
    cases t <;> cases b <;> rfl
  · intro ht
    rw [ht] at hv
    generalize a.tmps.getD k Go.undef = v at hv hget
    cases hv
    simp [Region.wanted, hg, yielded, hd, hget]
theorem EnvR.congr {nt : Nat} {g : Ghost} {w : World} {e : Env} {tmps : Array Value} (h : EnvR nt g w e tmps) {k : Nat} {x : AV} (hx : e k = x) : EnvR nt g w (upd e (some k) x) tmps :=
  ⟨h.size, fun t ht => by
    simp only [upd]
    split
    · rename_i e1; subst e1; subst hx; exact h.rel _ ht
    · exact h.rel t ht⟩
def compileOps (P : Program) (nt : Nat) (h : Hints) (dr : Bool) (all : Array Oper) : List Oper → Option (List GOp)
  | [] => some []
  | o :: r => match compileOp P nt h dr o, compileOps P nt h dr all r with
    | some ao, some gs => match o.guard with
      | none => some (⟨ao, o.dst, none⟩ :: gs)
      | some (j, b) => match (all[j]?).bind (·.dst) with
        | some k => if k < nt then some (⟨ao, o.dst, some (k, b)⟩ :: gs) else none
        | none => none
    | _, _ => none
theorem ops_sound {X : List Deferred} {ro : Option Nat} {wn : Nat} {nt : Nat} {h : Hints} {dr : Bool} {ops : Array Oper} {B : Nat → Prop} {Q : AQ} {g0 : Ghost} {w0 : World} {σ0 : Store} : ∀ (l : List Oper) (i : Nat) (gs : List GOp) (g : Ghost) (w : World) (σ : Store) (e : Env) (a : Act),
    compileOps P nt h dr ops l = some gs → (∀ j, j < l.length → ops[i + j]? = l[j]?) → runOps P Q gs e σ → Rel g w σ → EnvR nt g w e a.tmps → DefOk X B σ g w a.defers → Evo σ0 g0 w0 σ g w →
    Go.wpOpsIn (WF ro) wn P ops (QR X nt B g0 w0 σ0 Q) (List.range' i l.length) a w := by
  intro l
  induction l with
  | nil =>
    intro i gs g w σ e a hc _ hw hR hE hd hev
    cases hc
    exact ⟨g, e, σ, hd, hR, hE, hev, hw⟩
  | cons o l ih =>
    intro i gs g w σ e a hc hidx hw hR hE hd hev
    have h0 : ops[i]? = some o := by simpa using hidx 0 (by simp)
    have hidx' : ∀ j, j < l.length → ops[i + 1 + j]? = l[j]? := fun j hj => by
      have := hidx (j + 1) (by simpa using hj)
      simpa [Nat.add_assoc, Nat.add_comm 1 j] using this
    simp only [compileOps] at hc
    split at hc
    · rename_i ao gs' h1 h2
      have go : ∀ (e1 : Env), EnvR nt g w e1 a.tmps → ao.run P e1 σ (fun v σ' => runOps P Q gs' (upd e1 o.dst v) σ') (fun v σ' => Q (.panic v) e1 σ') →
          o.wpIn (WF ro) wn P a w (Go.wpOpsIn (WF ro) wn P ops (QR X nt B g0 w0 σ0 Q) (List.range' (i + 1) l.length)) (QR X nt B g0 w0 σ0 Q) := fun e1 hE1 hrun => by
        refine Oper.wp_mono2 ?_ ?_ (op_sound h1 hR hE1 hrun)
        · rintro a' w' ⟨v, g', av, σ', rfl, r1, r2, r3, r4⟩
          exact ih (i + 1) gs' g' w' σ' (upd e1 o.dst av) (a.put o.dst v) h2 hidx' r4 r1 ((hE1.mono r2.mono).put o.dst r3) (by rw [put_defers]; exact hd.step r2) (hev.trans r2)
        · rintro ex a' w' ⟨rfl, v, g', av, σ', rfl, r1, r2, r3, r4⟩
          exact ⟨g', e1, σ', hd.step r2, r1, hE1.mono r2.mono, hev.trans r2, v, av, rfl, r3, r4⟩
      have pass : ∀ (e1 : Env), EnvR nt g w e1 a.tmps → runOps P Q gs' (upd e1 o.dst (.tup [])) σ → Go.wpOpsIn (WF ro) wn P ops (QR X nt B g0 w0 σ0 Q) (List.range' (i + 1) l.length) (a.put o.dst Go.undef) w := fun e1 hE1 hrun =>
        ih (i + 1) gs' g w σ (upd e1 o.dst (.tup [])) (a.put o.dst Go.undef) h2 hidx' hrun hR (hE1.put o.dst (.tup [] #[] rfl (fun i hi => absurd hi (Nat.not_lt_zero _)))) (by rw [put_defers]; exact hd) hev
      rw [List.length_cons, List.range'_succ, wpOpsIn_cons]
      unfold wpOpIn
      simp only [h0]
      split at hc
      · rename_i hg
        cases hc
        have hwant : Region.wanted o (yielded ops a.tmps) = true := by simp [Region.wanted, hg]
        rw [if_pos hwant]
        exact go e hE hw
      · rename_i j b hg
        split at hc
        · rename_i k hk
          split at hc
          · rename_i hlt
            cases hc
            obtain ⟨w1, w2⟩ := wanted_of (ops := ops) hE hg hk hlt
            simp only [runOps] at hw
            split at hw
            · rename_i t ht
              have hwn := w1 t ht
              by_cases htb : t = b
              · subst htb
                rw [hwn, if_pos (by simp)]
                exact go _ (hE.congr ht) (hw.1 rfl)
              · have : t = !b := by cases t <;> cases b <;> simp_all
                rw [hwn, if_neg (by simpa using htb)]
                refine ⟨fun _ _ => trivial, pass _ (hE.congr ?_) (hw.2 this)⟩
                rw [ht, this]
            · rename_i ht
              rw [w2 ht, if_neg (by simp)]
              exact ⟨fun _ _ => trivial, pass e hE hw⟩
            · exact hw.elim
          · cases hc
        · cases hc
    · cases hc
end
end Go.AM
