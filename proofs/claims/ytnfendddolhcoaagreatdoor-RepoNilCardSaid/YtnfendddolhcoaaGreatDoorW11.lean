/- Part of a proof: see Root. -/
import Derived.Test.YtnfendddolhcoaaGreatDoorW10
set_option linter.unnecessarySimpa false
set_option linter.unusedSectionVars false
set_option linter.unusedSimpArgs false
set_option linter.unusedVariables false
namespace Go.AM
inductive AExit where
  | normal
  | exit (id : Nat)
  | goto (l : Nat)
  | ret
  | panic (v : AV)
structure GOp where
  op : AOp
  dst : Option Nat
  guard : Option (Nat × Bool)
abbrev AQ := AExit → Env → Store → Prop
def runOps (P : Program) (Q : AQ) : List GOp → Env → Store → Prop
  | [], e, σ => Q .normal e σ
  | ⟨o, d, none⟩ :: r, e, σ => o.run P e σ (fun v σ' => runOps P Q r (upd e d v) σ') (fun v σ' => Q (.panic v) e σ')
  | ⟨o, d, some (k, b)⟩ :: r, e, σ => match e k with
    | .bool t => (t = b → o.run P (upd e (some k) (.bool b)) σ (fun v σ' => runOps P Q r (upd (upd e (some k) (.bool b)) d v) σ') (fun v σ' => Q (.panic v) (upd e (some k) (.bool b)) σ')) ∧
        (t = !b → runOps P Q r (upd (upd e (some k) (.bool (!b))) d (.tup [])) σ)
    | .tup [] => runOps P Q r (upd e d (.tup [])) σ
    | _ => False
inductive ACode where
  | skip
  | region (ops : List GOp)
  | draw (ops : List GOp) (prs : List (AX × AX))
  | seq (a b : ACode)
  | cond (c : AX) (thn els : ACode)
  | block (id : Nat) (body : ACode)
  | loop (body : ACode)
  | exit (id : Nat)
  | ret
  | scope (l : Nat) (body rest : ACode)
  | label (l : Nat)
  | goto (l : Nat)
  | rng (f : AX) (nt : Nat) (ps : List Nat) (ca cb : Code) (asg body : ACode)
  | stop
def ACode.rngs : ACode → Bool
  | .seq a b => a.rngs || b.rngs
  | .cond _ a b => a.rngs || b.rngs
  | .block _ a => a.rngs
  | .loop a => a.rngs
  | .scope _ a _ => a.rngs
  | .rng .. => true
  | _ => false
def Low (ac : ACode) (B : Nat → Prop) (w : World) : Prop := ac.rngs = true → ∀ D, w.heap.size ≤ D → B D
theorem Low.size {ac : ACode} {B : Nat → Prop} {w w' : World} (h : Low ac B w) (hs : w.heap.size ≤ w'.heap.size) : Low ac B w' := fun hr D hD => h hr D (Nat.le_trans hs hD)
theorem Low.sub {ac ad : ACode} {B : Nat → Prop} {w : World} (h : Low ac B w) (hs : ad.rngs = true → ac.rngs = true) : Low ad B w := fun hr => h (hs hr)
theorem Low.at (ac : ACode) (w : World) : Low ac (fun D => w.heap.size ≤ D) w := fun _ _ h => h
def thenQ (K : Env → Store → Prop) (Q : AQ) : AQ
  | .normal, e, σ => K e σ
  | x, e, σ => Q x e σ
def blockQ (id : Nat) (Q : AQ) : AQ
  | .exit i, e, σ => if i = id then Q .normal e σ else Q (.exit i) e σ
  | x, e, σ => Q x e σ
def apartAll : List (AX × AX) → Env → Prop
  | [], _ => True
  | (x, y) :: r, e => apartA (x.ev e) (y.ev e) ∧ apartAll r e
def isMark : AX × AX → Bool
  | (.c .nilm, .c .nilm) => true
  | _ => false
def flagged (prs : List (AX × AX)) : Bool := prs.any isMark
def condQ (prs : List (AX × AX)) (Q : AQ) : AQ
  | .normal, e, σ => apartAll prs e ∧ Q .normal e σ
  | .panic v, e, σ => if flagged prs then ∀ e', Q (.panic v) e' σ else Q (.panic v) e σ
  | x, e, σ => Q x e σ
theorem condQ_le {prs : List (AX × AX)} {Q : AQ} : ∀ {ex e σ}, condQ prs Q ex e σ → Q ex e σ := fun {ex e σ} h => by
  cases ex <;> first | exact h.2 | exact h | skip
  simp only [condQ] at h
  split at h
  · exact h e
  · exact h
theorem condQ_pan {prs : List (AX × AX)} {Q : AQ} (h : flagged prs = true) {v : AV} {e e' : Env} {σ : Store} : condQ prs Q (.panic v) e σ → condQ prs Q (.panic v) e' σ := by
  simp only [condQ, h, if_true]
  exact id
def LoopA (body : AQ → Env → Store → Prop) (Q : AQ) (e : Env) (σ : Store) : Prop :=
  ∃ (I : Nat → Env → Store → Prop), (∃ n, I n e σ) ∧ ∀ n e σ, I n e σ → body (thenQ (fun e' σ' => ∃ m, m < n ∧ I m e' σ') Q) e σ
def jumpQ (l : Nat) (J : Env → Store → Prop) (Q : AQ) : AQ
  | .goto l', e, σ => l' = l ∧ J e σ
  | x, e, σ => Q x e σ
def ScopeA (l : Nat) (body rest : AQ → Env → Store → Prop) (Q : AQ) (e : Env) (σ : Store) : Prop :=
  ∃ (J : Nat → Env → Store → Prop), body (jumpQ l (fun e σ => ∃ n, J n e σ) Q) e σ ∧ ∀ n e σ, J n e σ → rest (jumpQ l (fun e' σ' => ∃ m, m < n ∧ J m e' σ') Q) e σ
def putArgs : List Nat → List AV → Env → Env
  | p :: ps, a :: az, e => putArgs ps az (upd e (some p) a)
  | _, _, e => e
def asgQ (l : Nat) (o o' : AObj) (B : Env → Store → Prop) : AQ
  | .normal, e, σ => σ[l]? = some o ∧ B e (σ.set l o')
  | _, _, _ => False
def rndQ (l : Nat) (o : LoopState → Option Code → AObj) (R : Out → Store → Prop) : AQ
  | .normal, _, σ => σ[l]? = some (o .busy none) ∧ R (.ret (.bool true)) (σ.set l (o .ready none))
  | .ret, _, σ => σ[l]? = some (o .busy none) ∧ R (.ret (.bool false)) (σ.set l (o .done (some .ret)))
  | .exit i, _, σ => σ[l]? = some (o .busy none) ∧ R (.ret (.bool false)) (σ.set l (o .done (some (.exit i))))
  | .goto i, _, σ => σ[l]? = some (o .busy none) ∧ R (.ret (.bool false)) (σ.set l (o .done (some (.goto i))))
  | .panic _, _, _ => False
def endQ (l : Nat) (o : LoopState → Option Code → AObj) (Q : AQ) (e : Env) : Out → Store → Prop
  | .ret _, σ => ∃ st pe, σ[l]? = some (o st pe) ∧ st ≠ .busy ∧ match pe with
      | none => Q .normal e (σ.set l .dead)
      | some .ret => Q .ret e (σ.set l .dead)
      | some (.exit i) => Q (.exit i) e (σ.set l .dead)
      | some (.goto i) => Q (.goto i) e (σ.set l .dead)
      | _ => False
  | .panic v, σ => Q (.panic v) e σ
def RngA (P : Program) (nt : Nat) (ps : List Nat) (ca cb : Code) (f : AV) (asg body : AQ → Env → Store → Prop) (Q : AQ) (e : Env) (σ : Store) : Prop :=
  match f with
  | .fn (.func n) first cap => ∀ o : LoopState → Option Code → AObj, (∀ st pe, o st pe = .loop nt e ps.toArray ca cb st pe) →
      (∀ σ' args R, σ'[σ.length]? = some (o .ready none) → args.length = ps.length →
        asg (asgQ σ.length (o .ready none) (o .busy none) (body (rndQ σ.length o R))) (putArgs ps args e) σ' → YieldA P σ.length args σ' R) →
      CallA P n (first ++ [.yld σ.length] ++ cap) (σ ++ [o .ready none]) (endQ σ.length o Q e)
  | _ => False
def wpA (P : Program) : ACode → AQ → Env → Store → Prop
  | .skip, Q, e, σ => Q .normal e σ
  | .region ops, Q, e, σ => runOps P Q ops e σ
  | .draw ops prs, Q, e, σ => runOps P (condQ prs Q) ops e σ
  | .seq a b, Q, e, σ => wpA P a (thenQ (wpA P b Q) Q) e σ
  | .cond c a b, Q, e, σ => match c.ev e with
    | .bool t => (t = true → wpA P a Q e σ) ∧ (t = false → wpA P b Q e σ)
    | _ => False
  | .block id c, Q, e, σ => wpA P c (blockQ id Q) e σ
  | .loop c, Q, e, σ => LoopA (wpA P c) Q e σ
  | .exit id, Q, e, σ => Q (.exit id) e σ
  | .ret, Q, e, σ => Q .ret e σ
  | .scope l c r, Q, e, σ => ScopeA l (wpA P c) (wpA P r) Q e σ
  | .label _, Q, e, σ => Q .normal e σ
  | .goto l, Q, e, σ => Q (.goto l) e σ
  | .rng f nt ps ca cb asg body, Q, e, σ => RngA P nt ps ca cb (f.ev e) (wpA P asg) (wpA P body) Q e σ
  | .stop, _, _, _ => False
structure MarkOk (B : Nat → Prop) (σ : Store) (g : Ghost) (w : World) (ds : List Deferred) : Prop where
  nodup : ds.Nodup
  mark : ∀ d ∈ ds, ∃ D, d = { target := .collected D, args := #[] } ∧ B D ∧ w.heap[D]? = some (.deferred (some [])) ∧ ¬ Tracked σ g D ∧ ¬ g.imm D
theorem MarkOk.step {B : Nat → Prop} {σ σ' : Store} {g g' : Ghost} {w w' : World} {ds : List Deferred} (h : MarkOk B σ g w ds) (hev : Evo σ g w σ' g' w') : MarkOk B σ' g' w' ds := by
  refine ⟨h.nodup, fun d hd => ?_⟩
  obtain ⟨D, h1, h2, h3, h4, h5⟩ := h.mark d hd
  have hlt : D < w.heap.size := (Array.getElem?_eq_some_iff.1 h3).1
  exact ⟨D, h1, h2, (hev.frame D hlt h4).trans h3, fun ht => h4 (hev.trk D hlt ht), fun hi => (hev.immold D hlt hi).elim h5 h4⟩
def DefOk (X : List Deferred) (B : Nat → Prop) (σ : Store) (g : Ghost) (w : World) (ds : List Deferred) : Prop := ∃ ms, ds = ms ++ X ∧ MarkOk B σ g w ms
theorem DefOk.nil (X : List Deferred) (B : Nat → Prop) (σ : Store) (g : Ghost) (w : World) : DefOk X B σ g w X := ⟨[], rfl, List.nodup_nil, fun _ h => by cases h⟩
theorem DefOk.step {X : List Deferred} {B : Nat → Prop} {σ σ' : Store} {g g' : Ghost} {w w' : World} {ds : List Deferred} (h : DefOk X B σ g w ds) (hev : Evo σ g w σ' g' w') : DefOk X B σ' g' w' ds :=
  let ⟨ms, h1, h2⟩ := h; ⟨ms, h1, h2.step hev⟩
def QR (X : List Deferred) (nt : Nat) (B : Nat → Prop) (g : Ghost) (w : World) (σ : Store) (Q : AQ) (ex : Exit) (a : Act) (w' : World) : Prop :=
  ∃ g' e' σ', DefOk X B σ' g' w' a.defers ∧ Rel g' w' σ' ∧ EnvR nt g' w' e' a.tmps ∧ Evo σ g w σ' g' w' ∧
    match ex with
    | .normal => Q .normal e' σ'
    | .exit id => Q (.exit id) e' σ'
    | .goto l => Q (.goto l) e' σ'
    | .ret => Q .ret e' σ'
    | .panic chain => ∃ v av, chain = [{ v, recovered := false }] ∧ VR g' w' av v ∧ Q (.panic av) e' σ'
    | .outgrown => False
section
variable {P : Program}
theorem Oper.wp_mono2 {F : Fence} {wn : Nat} {o : Oper} {a : Act} {w : World} {K K' : Act → World → Prop} {Q Q' : Exit → Act → World → Prop} (h : ∀ a w, K a w → K' a w) (hq : ∀ e a w, Q e a w → Q' e a w)
    (hh : o.wpIn F wn P a w K Q) : o.wpIn F wn P a w K' Q' := by
  unfold Oper.wpIn at *
  refine ⟨hh.1, ?_⟩
  replace hh := hh.2
  generalize (o.semAt F.round a.eval).run P w = r at *
  cases r with
  | ok n w' =>
    cases n <;> simp only [Oper.uponIn] at hh ⊢ <;>
      first
        | exact h _ _ hh
        | exact ⟨hh.1, CallsIn.mono hh.2 (fun e w'' he => by
            cases e <;> first
              | exact h _ _ he
              | exact hq _ _ _ he
              | (obtain ⟨a0, w0, he⟩ := he; exact ⟨a0, w0, hq _ _ _ he⟩))⟩
        | exact ⟨hh.1, RoundIn.mono hh.2 (fun e w'' he => by
            cases e <;> first
              | exact h _ _ he
              | exact hq _ _ _ he
              | (obtain ⟨a0, w0, he⟩ := he; exact ⟨a0, w0, hq _ _ _ he⟩))⟩
        | exact ⟨hh.1, RowsIn.mono hh.2 (fun _ _ he => h _ _ he)⟩
  | halt x w' =>
    cases x <;> simp only [Oper.uponIn] at hh ⊢ <;> first
      | exact hq _ _ _ hh
      | exact hh
theorem put_defers (a : Act) (d : Option Tmp) (v : Value) : (a.put d v).defers = a.defers := by cases d <;> rfl
theorem wanted_of {nt : Nat} {g : Ghost} {w : World} {e : Env} {a : Act} {ops : Array Oper} {o : Oper} {k : Nat} {j : Nat} {b : Bool} (hE : EnvR nt g w e a.tmps) (hg : o.guard = some (j, b)) (hd : (ops[j]?).bind (·.dst) = some k) (hk : k < nt) :
    (∀ t, e k = .bool t → Region.wanted o (yielded ops a.tmps) = (t == b)) ∧ (e k = .tup [] → Region.wanted o (yielded ops a.tmps) = false) := by
  have hv := hE.rel k hk
  have hlt : k < a.tmps.size := by rw [hE.size]; exact hk
  have hget : a.tmps[k]? = some (a.tmps.getD k Go.undef) := by simp [hlt]
  constructor
  · intro t ht
    rw [ht] at hv
    generalize a.tmps.getD k Go.undef = v at hv hget
    cases hv
    simp only [Region.wanted, hg, yielded, hd, Option.bind_some, hget]
    cases t <;> cases b <;> rfl
  · intro ht
    rw [ht] at hv
    generalize a.tmps.getD k Go.undef = v at hv hget
    cases hv
    simp [Region.wanted, hg, yielded, hd, hget]
theorem EnvR.congr {nt : Nat} {g : Ghost} {w : World} {e : Env} {tmps : Array Value} (h : EnvR nt g w e tmps) {k : Nat} {x : AV} (hx : e k = x) : EnvR nt g w (upd e (some k) x) tmps :=
  ⟨h.size, fun t ht => by
    simp only [upd]
    split
    · rename_i e1; subst e1; subst hx; exact h.rel _ ht
    · exact h.rel t ht⟩
def compileOps (P : Program) (nt : Nat) (h : Hints) (dr : Bool) (all : Array Oper) : List Oper → Option (List GOp)
  | [] => some []
  | o :: r => match compileOp P nt h dr o, compileOps P nt h dr all r with
    | some ao, some gs => match o.guard with
      | none => some (⟨ao, o.dst, none⟩ :: gs)
      | some (j, b) => match (all[j]?).bind (·.dst) with
        | some k => if k < nt then some (⟨ao, o.dst, some (k, b)⟩ :: gs) else none
        | none => none
    | _, _ => none
theorem ops_sound {X : List Deferred} {ro : Option Nat} {wn : Nat} {nt : Nat} {h : Hints} {dr : Bool} {ops : Array Oper} {B : Nat → Prop} {Q : AQ} {g0 : Ghost} {w0 : World} {σ0 : Store} : ∀ (l : List Oper) (i : Nat) (gs : List GOp) (g : Ghost) (w : World) (σ : Store) (e : Env) (a : Act),
    compileOps P nt h dr ops l = some gs → (∀ j, j < l.length → ops[i + j]? = l[j]?) → runOps P Q gs e σ → Rel g w σ → EnvR nt g w e a.tmps → DefOk X B σ g w a.defers → Evo σ0 g0 w0 σ g w →
    Go.wpOpsIn (WF ro) wn P ops (QR X nt B g0 w0 σ0 Q) (List.range' i l.length) a w := by
  intro l
  induction l with
  | nil =>
    intro i gs g w σ e a hc _ hw hR hE hd hev
    cases hc
    exact ⟨g, e, σ, hd, hR, hE, hev, hw⟩
  | cons o l ih =>
    intro i gs g w σ e a hc hidx hw hR hE hd hev
    have h0 : ops[i]? = some o := by simpa using hidx 0 (by simp)
    have hidx' : ∀ j, j < l.length → ops[i + 1 + j]? = l[j]? := fun j hj => by
      have := hidx (j + 1) (by simpa using hj)
      simpa [Nat.add_assoc, Nat.add_comm 1 j] using this
    simp only [compileOps] at hc
    split at hc
    · rename_i ao gs' h1 h2
      have go : ∀ (e1 : Env), EnvR nt g w e1 a.tmps → ao.run P e1 σ (fun v σ' => runOps P Q gs' (upd e1 o.dst v) σ') (fun v σ' => Q (.panic v) e1 σ') →
          o.wpIn (WF ro) wn P a w (Go.wpOpsIn (WF ro) wn P ops (QR X nt B g0 w0 σ0 Q) (List.range' (i + 1) l.length)) (QR X nt B g0 w0 σ0 Q) := fun e1 hE1 hrun => by
        refine Oper.wp_mono2 ?_ ?_ (op_sound h1 hR hE1 hrun)
        · rintro a' w' ⟨v, g', av, σ', rfl, r1, r2, r3, r4⟩
          exact ih (i + 1) gs' g' w' σ' (upd e1 o.dst av) (a.put o.dst v) h2 hidx' r4 r1 ((hE1.mono r2.mono).put o.dst r3) (by rw [put_defers]; exact hd.step r2) (hev.trans r2)
        · rintro ex a' w' ⟨rfl, v, g', av, σ', rfl, r1, r2, r3, r4⟩
          exact ⟨g', e1, σ', hd.step r2, r1, hE1.mono r2.mono, hev.trans r2, v, av, rfl, r3, r4⟩
      have pass : ∀ (e1 : Env), EnvR nt g w e1 a.tmps → runOps P Q gs' (upd e1 o.dst (.tup [])) σ → Go.wpOpsIn (WF ro) wn P ops (QR X nt B g0 w0 σ0 Q) (List.range' (i + 1) l.length) (a.put o.dst Go.undef) w := fun e1 hE1 hrun =>
        ih (i + 1) gs' g w σ (upd e1 o.dst (.tup [])) (a.put o.dst Go.undef) h2 hidx' hrun hR (hE1.put o.dst (.tup [] #[] rfl (fun i hi => absurd hi (Nat.not_lt_zero _)))) (by rw [put_defers]; exact hd) hev
      rw [List.length_cons, List.range'_succ, wpOpsIn_cons]
      unfold wpOpIn
      simp only [h0]
      split at hc
      · rename_i hg
        cases hc
        have hwant : Region.wanted o (yielded ops a.tmps) = true := by simp [Region.wanted, hg]
        rw [if_pos hwant]
        exact go e hE hw
      · rename_i j b hg
        split at hc
        · rename_i k hk
          split at hc
          · rename_i hlt
            cases hc
            obtain ⟨w1, w2⟩ := wanted_of (ops := ops) hE hg hk hlt
            simp only [runOps] at hw
            split at hw
            · rename_i t ht
              have hwn := w1 t ht
              by_cases htb : t = b
              · subst htb
                rw [hwn, if_pos (by simp)]
                exact go _ (hE.congr ht) (hw.1 rfl)
              · have : t = !b := by cases t <;> cases b <;> simp_all
                rw [hwn, if_neg (by simpa using htb)]
                refine ⟨fun _ _ => trivial, pass _ (hE.congr ?_) (hw.2 this)⟩
                rw [ht, this]
            · rename_i ht
              rw [w2 ht, if_neg (by simp)]
              exact ⟨fun _ _ => trivial, pass e hE hw⟩
            · exact hw.elim
          · cases hc
        · cases hc
    · cases hc
end
end Go.AM
namespace Go.AM
theorem noLs_getD {m : Nat} {l : List AV} (h : AV.noLs m l = true) (i : Nat) : (l.getD i .undef).noL m = true := by
  induction l generalizing i with
  | nil => simp [AV.noL]
  | cons a l ih =>
    simp only [AV.noLs, Bool.and_eq_true] at h
    cases i with
    | zero => simpa using h.1
    | succ i => simpa using ih h.2 i
theorem cell_noL {m : Nat} {a : AV} (h : a.noL m = true) (c : Nat) : (a.cell c).noL m = true := by
  cases a <;> first | exact h | exact noLs_getD (by simpa [AV.noL] using h) c
structure Like (m : Nat) (g g0 : Ghost) : Prop where
  imm : ∀ b, g.imm b → g0.imm b
  n : g.n ≤ g0.n
  at_ : ∀ l, l ≠ m → g0.ver l = g.ver l ∧ g0.base l = g.base l ∧ g0.cap l = g.cap l ∧ g0.off l = g.off l
theorem VR.like {m : Nat} {g g0 : Ghost} {w : World} (hL : Like m g g0) {a : AV} {v : Value} (h : VR g w a v) : a.noL m = true → VR g0 w a v := by
  induction h with
  | undef v => exact fun _ => .undef v
  | bool b => exact fun _ => .bool b
  | int k n => exact fun _ => .int k n
  | str s => exact fun _ => .str s
  | agg cs vs hl hs _ ih => exact fun hp => .agg cs vs hl hs (fun i h => ih i h (noLs_getD (by simpa [AV.noL] using hp) i))
  | tup cs vs hl _ ih => exact fun hp => .tup cs vs hl (fun i h => ih i h (noLs_getD (by simpa [AV.noL] using hp) i))
  | nils => exact fun _ => .nils
  | lstE f el b cap hf => exact fun _ => .lstE f el b cap hf
  | lst f el xs b off cap hb hf hx ft hc _ ih =>
    intro hp
    exact .lst f el xs b off cap (hL.imm b hb) hf hx ft hc (fun i c h1 h2 => ih i c h1 h2 (cell_noL (noLs_getD (by simpa [AV.noL] using hp) i) c))
  | own el l mm lo n v h =>
    intro hp
    have hne : l ≠ m := by simpa [AV.noL] using hp
    obtain ⟨h1, h2, A, cap, h3, h4⟩ := h
    obtain ⟨e1, e2, e3, e4⟩ := hL.at_ l hne
    exact .own el l mm lo n v ⟨Nat.lt_of_lt_of_le h1 hL.n, by rw [e1]; exact h2, A, cap, h3, by rw [e1, e2, e3, e4]; exact h4⟩
  | ref l off v h =>
    intro hp
    have hne : l ≠ m := by simpa [AV.noL] using hp
    obtain ⟨⟨h1, h0⟩, A, h2, h3⟩ := h
    obtain ⟨e1, e2, _, _⟩ := hL.at_ l hne
    exact .ref l off v ⟨⟨Nat.lt_of_lt_of_le h1 hL.n, by rw [e1]; exact h0⟩, A, h2, by rw [e1, e2]; exact h3⟩
  | eref el x off b o hb ft hc _ ih =>
    intro hp
    exact .eref el x off b o (hL.imm b hb) ft hc (fun c h2 => ih c h2 (cell_noL (by simpa [AV.noL] using hp) c))
  | vref el l mm i off v h =>
    intro hp
    have hne : l ≠ m := by simpa [AV.noL] using hp
    obtain ⟨h1, h2, A, h3, h4⟩ := h
    obtain ⟨e1, e2, _, e4⟩ := hL.at_ l hne
    exact .vref el l mm i off v ⟨Nat.lt_of_lt_of_le h1 hL.n, by rw [e1]; exact h2, A, h3, by rw [e1, e2, e4]; exact h4⟩
  | nilp => exact fun _ => .nilp
  | nilf => exact fun _ => .nilf
  | nili => exact fun _ => .nili
  | fn f first cap first' cap' hl hl' _ _ ih ih' =>
    intro hp
    simp only [AV.noL, Bool.and_eq_true] at hp
    exact .fn f first cap first' cap' hl hl' (fun i h => ih i h (noLs_getD hp.1 i)) (fun i h => ih' i h (noLs_getD hp.2 i))
  | ifc t a v _ ih => exact fun hp => .ifc t a v (ih (by simpa [AV.noL] using hp))
  | nilm => exact fun _ => .nilm
  | opq v h => exact fun _ => .opq v h
  | mp l v h =>
    intro hp
    have hne : l ≠ m := by simpa [AV.noL] using hp
    obtain ⟨h1, b, h2, h3⟩ := h
    obtain ⟨e1, e2, _, _⟩ := hL.at_ l hne
    exact .mp l v ⟨Nat.lt_of_lt_of_le h1 hL.n, b, h2, by rw [e1, e2]; exact h3⟩
  | yld l v h =>
    intro hp
    have hne : l ≠ m := by simpa [AV.noL] using hp
    obtain ⟨h1, b, h2, h3⟩ := h
    obtain ⟨e1, e2, _, _⟩ := hL.at_ l hne
    exact .yld l v ⟨Nat.lt_of_lt_of_le h1 hL.n, b, h2, by rw [e1, e2]; exact h3⟩
  | asl el p n A cap hn hc _ ih => exact fun hp => .asl el p n A cap hn hc (ih (by simpa [AV.noL] using hp))
theorem AObj.Ok.like {m : Nat} {g g0 : Ghost} {w : World} {l : Nat} {o : AObj} (hL : Like m g g0) (hne : l ≠ m) (h : o.Ok g w l) (hn : o.noL m = true) : o.Ok g0 w l := by
  obtain ⟨e1, e2, e3, e4⟩ := hL.at_ l hne
  cases o with
  | cellsT T cs =>
    obtain ⟨h1, hs, b, vs, h2, h3, h4, h5, h6⟩ := h
    exact ⟨e1.trans h1, hs, b, vs, e2.trans h2, h3, h4, fun i hi => (h5 i hi).like hL (noLs_getD hn i), h6⟩
  | vecT T el xs =>
    obtain ⟨h1, hf, h2⟩ := h
    refine ⟨e1.trans h1, hf, ?_⟩
    rcases h2 with ⟨h2, h3, h4⟩ | ⟨b, vs, h2, h3, h4, h5, h6, h7⟩
    · exact .inl ⟨h2, e2.trans h3, e3.trans h4.1, e4.trans h4.2⟩
    · exact .inr ⟨b, vs, e2.trans h2, h3, by rw [e3, e4]; exact h4, by rw [e3]; exact h5, fun i c hi hc => by rw [e4]; exact (h6 i c hi hc).like hL (cell_noL (noLs_getD hn i) c), by rw [e4]; exact h7⟩
  | siter s pos =>
    obtain ⟨h1, b, h2, h3⟩ := h
    exact ⟨e1.trans h1, b, e2.trans h2, h3⟩
  | map es =>
    obtain ⟨h1, b, ms, clock, h2, h3, h4, h6, h5⟩ := h
    refine ⟨e1.trans h1, b, ms, clock, e2.trans h2, h3, h4, h6, fun i hi => ?_⟩
    have := List.all_eq_true.1 hn (es.getD i default) (by rw [List.getD_eq_getElem?_getD, List.getElem?_eq_getElem hi]; exact List.getElem_mem hi)
    rw [Bool.and_eq_true] at this
    exact ⟨(h5 i hi).1.like hL this.1, (h5 i hi).2.like hL this.2⟩
  | loop nt e ps ca cb st pe =>
    obtain ⟨h1, b, rec, h2, h3, h4, h5, h6, h7, h8, h9, h10⟩ := h
    exact ⟨e1.trans h1, b, rec, e2.trans h2, h3, h4, h5, h6, h7, h8, h9, fun t ht => (h10 t ht).like hL (List.all_eq_true.1 hn t (List.mem_range.2 ht))⟩
  | dead => trivial
  | resv => exact ⟨e1.trans h.1, e2.trans h.2.1, e3.trans h.2.2.1, e4.trans h.2.2.2⟩
def AV.cst : AV → Bool
  | .bool _ | .int .. | .str _ | .nils | .nilp | .nilf | .nili | .nilm => true
  | _ => false
theorem VR.cst {g g' : Ghost} {w w' : World} {a : AV} {v : Value} (h : VR g w a v) (hc : a.cst = true) : VR g' w' a v := by
  cases h <;> first | (simp [AV.cst] at hc; done) | constructor
theorem cst_noL {m : Nat} {a : AV} (hc : a.cst = true) : a.noL m = true := by
  cases a <;> first | (simp [AV.cst] at hc; done) | rfl
theorem cst_noLs {m : Nat} {cs : List AV} (hc : cs.all AV.cst = true) : AV.noLs m cs = true := by
  induction cs with
  | nil => rfl
  | cons a cs ih =>
    simp only [List.all_cons, Bool.and_eq_true] at hc
    simp only [AV.noLs, cst_noL hc.1, ih hc.2, Bool.and_true]
theorem r3_ret {g g' : Ghost} {w : World} {r : AV} {e : Ending} (h : OutR g w (.ret r) e) (hm : Mono g w g' w) : OutR g' w (.ret r) e := by
  cases e <;> first | exact VR.mono hm h | exact h
theorem live_other {σ : Store} {m l : Nat} {o : AObj} (hne : l ≠ m) (h : Live σ l) : Live (σ.set m o) l := by
  obtain ⟨o', h1, h2⟩ := h
  exact ⟨o', by rw [List.getElem?_set_ne (Ne.symm hne)]; exact h1, h2⟩
set_option maxHeartbeats 1000000 in
theorem CallA.resv {P : Program} {f : FuncId} {args : List AV} {σ s2 : Store} {r : AV} {m : Nat} {T : Option TypeId} {cs : List AV} (hm : σ[m]? = some .resv) (h2 : s2[m]? = some .resv) (ha : AV.noLs m args = true) (hs : noAll m σ = true) (hc : cs.all AV.cst = true)
    (h : CallA P f args σ (fun o σ' => o = .ret r ∧ σ' = s2)) : CallA P f args (σ.set m (.cellsT T cs)) (fun o σ' => o = .ret r ∧ σ' = s2.set m (.cellsT T cs)) := by
  refine ⟨h.1, fun g w vs hR hl hv => ?_⟩
  have hml : m < σ.length := (List.getElem?_eq_some_iff.1 hm).1
  have hset : (σ.set m (.cellsT T cs))[m]? = some (.cellsT T cs) := List.getElem?_set_self hml
  obtain ⟨hver, hsc, b, us, hb, hrow, husz, hcells, hty⟩ := hR.ok m _ hset
  have hlive : Live (σ.set m (.cellsT T cs)) m := ⟨_, hset, rfl⟩
  have hL : Like m g (g.reset m 0 none 0 0) := ⟨fun _ h => h, Nat.le_refl _, fun l hne => by simp [Ghost.reset, hne]⟩
  have hbm : (g.reset m 0 none 0 0).base m = none := by simp [Ghost.reset]
  have hbo : ∀ l, l ≠ m → (g.reset m 0 none 0 0).base l = g.base l := fun l hne => (hL.at_ l hne).2.1
  have hne0 : ∀ {l c : Nat}, (g.reset m 0 none 0 0).base l = some c → l ≠ m := fun hl e => by subst e; rw [hbm] at hl; cases hl
  have hR0 : Rel (g.reset m 0 none 0 0) w σ := by
    refine ⟨by have := hR.len; rw [List.length_set] at this; exact this, hR.lt, fun l o ho => ?_, fun l l' c h1 h3 h4 h5 => ?_, fun l c h1 h3 => ?_, hR.glob⟩
    · by_cases e : l = m
      · subst e
        rw [hm] at ho; cases ho
        simp [AObj.Ok, Ghost.reset]
      · exact (hR.ok l o (by rw [List.getElem?_set_ne (Ne.symm e)]; exact ho)).like hL e (List.all_eq_true.1 hs o (List.mem_of_getElem? ho))
    · have n1 := hne0 h4
      have n2 := hne0 h5
      rw [hbo _ n1] at h4; rw [hbo _ n2] at h5
      exact hR.inj l l' c (live_other n1 h1) (live_other n2 h3) h4 h5
    · have n1 := hne0 h3
      rw [hbo _ n1] at h3
      exact hR.dis l c (live_other n1 h1) h3
  refine (h.2 _ w vs hR0 hl (fun i hi => (hv i hi).like hL (noLs_getD ha i))).mono ?_
  rintro e w' ⟨out, g1, s1, r1, r2, r3, rfl, rfl⟩
  have hblt : b < w.heap.size := hrow.lt
  have hnt : ¬ Tracked σ (g.reset m 0 none 0 0) b := by
    rintro ⟨l, h1, h3⟩
    have n1 := hne0 h3
    rw [hbo _ n1] at h3
    exact n1 (hR.inj l m b (live_other n1 h1) hlive h3 hb)
  have hheap : w'.heap[b]? = w.heap[b]? := r2.frame b hblt hnt
  have hbi : ¬ g.imm b := hR.dis m b hlive hb
  obtain ⟨q1, q2, q3, q4⟩ := r1.ok m _ h2
  have hml2 : m < s1.length := (List.getElem?_eq_some_iff.1 h2).1
  have hset2 : (s1.set m (.cellsT T cs))[m]? = some (.cellsT T cs) := List.getElem?_set_self hml2
  have hbm2 : (g1.reset m 1 (some b) (g.cap m) (g.off m)).base m = some b := by simp [Ghost.reset]
  have hbo2 : ∀ l, l ≠ m → (g1.reset m 1 (some b) (g.cap m) (g.off m)).base l = g1.base l := fun l hne => by simp [Ghost.reset, hne]
  have hm12 : Mono g1 w' (g1.reset m 1 (some b) (g.cap m) (g.off m)) w' := by
    refine ⟨fun c hc => ⟨hc, rfl⟩, Nat.le_refl _, fun l _ => ?_⟩
    by_cases e : l = m
    · subst e; simp [Ghost.reset, q1]
    · simp [Ghost.reset, e]
  have hmg : Mono g w (g1.reset m 1 (some b) (g.cap m) (g.off m)) w' := by
    refine ⟨fun c hc => r2.mono.imm c hc, r2.mono.n, fun l hl => ?_⟩
    by_cases e : l = m
    · subst e; simp [Ghost.reset, hver, hb]
    · have := r2.mono.ver l hl
      simpa [Ghost.reset, e] using this
  have hold : ∀ l c, Live (s1.set m (.cellsT T cs)) l → (g1.reset m 1 (some b) (g.cap m) (g.off m)).base l = some c → (l = m ∧ c = b) ∨ (l ≠ m ∧ Live s1 l ∧ g1.base l = some c) := fun l c h1 h3 => by
    rcases live_set h1 with ⟨e, _, _⟩ | ⟨e, h4⟩
    · subst e; rw [hbm2] at h3; exact .inl ⟨rfl, (Option.some.inj h3).symm⟩
    · rw [hbo2 _ e] at h3; exact .inr ⟨e, h4, h3⟩
  have hfree : ∀ l, Live s1 l → g1.base l = some b → False := fun l h1 h3 => hnt (r2.trk b hblt ⟨l, h1, h3⟩)
  refine ⟨.ret r, g1.reset m 1 (some b) (g.cap m) (g.off m), s1.set m (.cellsT T cs), ⟨?_, r1.lt, fun l o ho => ?_, fun l l' c h1 h3 h4 h5 => ?_, fun l c h1 h3 hi => ?_, r1.glob⟩,
    ⟨hmg, r2.size, r2.os, r2.tape, r2.output, fun c hc hn => r2.frame c hc fun ⟨l, h1, h3⟩ => ?_, fun c hc hi => ?_, fun c hc ht => ?_⟩, r3_ret r3 hm12, rfl, rfl⟩
  · rw [List.length_set]; exact r1.len
  · by_cases e : l = m
    · subst e
      rw [hset2] at ho; cases ho
      refine ⟨by simp [Ghost.reset], hsc, b, us, hbm2, hrow.of_heap hheap, husz, fun i hi => (hcells i hi).cst ?_, hty.of_heap hheap⟩
      rw [List.getD_eq_getElem?_getD, List.getElem?_eq_getElem hi]
      exact List.all_eq_true.1 hc _ (List.getElem_mem hi)
    · rw [List.getElem?_set_ne (Ne.symm e)] at ho
      exact (r1.ok l o ho).step hm12 (by rw [← r1.len]; exact (List.getElem?_eq_some_iff.1 ho).1) (by simp [Ghost.reset, e]) (fun _ _ => rfl)
  · rcases hold l c h1 h4 with ⟨a1, a2⟩ | ⟨a1, a2, a3⟩ <;> rcases hold l' c h3 h5 with ⟨b1, b2⟩ | ⟨b1, b2, b3⟩
    · rw [a1, b1]
    · subst a2; exact (hfree l' b2 b3).elim
    · subst b2; exact (hfree l a2 a3).elim
    · exact r1.inj l l' c a2 b2 a3 b3
  · rcases hold l c h1 h3 with ⟨a1, a2⟩ | ⟨a1, a2, a3⟩
    · subst a2
      rcases r2.immold c hblt hi with h4 | h4
      · exact hbi h4
      · exact hnt h4
    · exact r1.dis l c a2 a3 hi
  · have n1 := hne0 h3
    rw [hbo _ n1] at h3
    exact hn ⟨l, live_other n1 h1, h3⟩
  · rcases r2.immold c hc hi with h4 | ⟨l, h1, h3⟩
    · exact .inl h4
    · have n1 := hne0 h3
      rw [hbo _ n1] at h3
      exact .inr ⟨l, live_other n1 h1, h3⟩
  · obtain ⟨l, h1, h3⟩ := ht
    rcases hold l c h1 h3 with ⟨a1, a2⟩ | ⟨a1, a2, a3⟩
    · subst a2; exact ⟨m, hlive, hb⟩
    · obtain ⟨k, k1, k2⟩ := r2.trk c hc ⟨l, a2, a3⟩
      have n1 := hne0 k2
      rw [hbo _ n1] at k2
      exact ⟨k, live_other n1 k1, k2⟩
end Go.AM
