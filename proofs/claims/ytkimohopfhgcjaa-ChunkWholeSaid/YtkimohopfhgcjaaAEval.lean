/- Abstract code, evaluated by rewriting: head first, what follows untouched (it stands inside a tag, whose type names it). -/
import Derived.Test.YtkimohopfhgcjaaAWalk
import Derived.IntWalk
namespace Go.AM
set_option linter.unusedSimpArgs false
set_option linter.unusedVariables false
set_option linter.unnecessarySimpa false
variable {P : Program}

universe u
inductive Tg {α : Sort u} (K : α) : Type where
  | mk
abbrev tg {α : Sort u} (K : α) : Tg K := .mk

/-- A value is reckoned, then handed on. -/
def bindV (v : AV) {K : AV → Prop} (_ : Tg K) : Prop := K v
def bindS (σ : Store) {K : Store → Prop} (_ : Tg K) : Prop := K σ
def bindL (v : List AV) {K : List AV → Prop} (_ : Tg K) : Prop := K v
def bindO (v : Option AObj) {K : Option AObj → Prop} (_ : Tg K) : Prop := K v
@[go_sem] theorem bindV_eq (v : AV) (K : AV → Prop) : bindV v (.mk : Tg K) = K v := _root_.id rfl
@[go_sem] theorem bindS_eq (v : Store) (K : Store → Prop) : bindS v (.mk : Tg K) = K v := _root_.id rfl
@[go_sem] theorem bindL_eq (v : List AV) (K : List AV → Prop) : bindL v (.mk : Tg K) = K v := _root_.id rfl
@[go_sem] theorem bindO_eq (v : Option AObj) (K : Option AObj → Prop) : bindO v (.mk : Tg K) = K v := _root_.id rfl
/-- What must hold. -/
def req (p : Prop) {K : Prop} (_ : Tg K) : Prop := p ∧ (p → K)
theorem req_i {p K : Prop} (h : p) (hk : p → K) : req p (.mk : Tg K) := ⟨h, hk⟩
@[go_sem] theorem req_true (K : Prop) : req True (.mk : Tg K) = K := by simp [req]
theorem and_req (p K : Prop) : (p ∧ K) = req p (.mk : Tg K) := by simp only [req]; exact propext ⟨fun h => ⟨h.1, fun _ => h.2⟩, fun h => ⟨h.1, h.2 h.1⟩⟩

/-! ### Environments -/
@[go_sem ↓] theorem ev_t (e : Env) (n : Nat) : AX.ev e (.t n) = e n := _root_.id rfl
@[go_sem ↓] theorem ev_c (e : Env) (a : AV) : AX.ev e (.c a) = a := _root_.id rfl
/-- One of two, the other untouched. -/
def pickT (c : Bool) {a b : AV} (_ : Tg (a, b)) : AV := if c then a else b
@[go_sem] theorem pickT_t (a b : AV) : pickT true (.mk : Tg (a, b)) = a := _root_.id rfl
@[go_sem] theorem pickT_f (a b : AV) : pickT false (.mk : Tg (a, b)) = b := _root_.id rfl
@[go_sem ↓] theorem upd_app (e : Env) (d : Nat) (v : AV) (n : Nat) : upd e (some d) v n = pickT (n == d) (.mk : Tg (v, e n)) := by
  simp only [upd, pickT, beq_iff_eq]
@[go_sem ↓] theorem upd_none (e : Env) (v : AV) : upd e none v = e := _root_.id rfl
@[go_sem] theorem envOf_zero (a : AV) (az : List AV) : envOf (a :: az) 0 = a := _root_.id rfl
@[go_sem] theorem envOf_succ (a : AV) (az : List AV) (n : Nat) : envOf (a :: az) (n + 1) = envOf az n := _root_.id rfl

/-! ### Code -/
def condA (v : AV) {T E : Prop} (_ : Tg (T, E)) : Prop :=
  match v with
  | .bool t => (t = true → T) ∧ (t = false → E)
  | _ => False
@[go_sem] theorem condA_true (T E : Prop) : condA (.bool true) (.mk : Tg (T, E)) = T := by simp [condA]
@[go_sem] theorem condA_false (T E : Prop) : condA (.bool false) (.mk : Tg (T, E)) = E := by simp [condA]
theorem condA_i {t : Bool} {T E : Prop} (h : t = true → T) (h' : t = false → E) : condA (.bool t) (.mk : Tg (T, E)) := ⟨h, h'⟩

@[go_sem ↓] theorem wpA_skip (Q : AQ) (e : Env) (σ : Store) : wpA P .skip Q e σ = Q .normal e σ := _root_.id rfl
@[go_sem ↓] theorem wpA_region (ops : List GOp) (Q : AQ) (e : Env) (σ : Store) : wpA P (.region ops) Q e σ = runOps P Q ops e σ := _root_.id rfl
@[go_sem ↓] theorem wpA_draw (ops : List GOp) (prs : List (AX × AX)) (Q : AQ) (e : Env) (σ : Store) : wpA P (.draw ops prs) Q e σ = runOps P (condQ prs Q) ops e σ := _root_.id rfl
@[go_sem ↓] theorem wpA_seq (a b : ACode) (Q : AQ) (e : Env) (σ : Store) : wpA P (.seq a b) Q e σ = wpA P a (thenQ (wpA P b Q) Q) e σ := _root_.id rfl
@[go_sem ↓] theorem wpA_cond (c : AX) (a b : ACode) (Q : AQ) (e : Env) (σ : Store) : wpA P (.cond c a b) Q e σ = condA (c.ev e) (.mk : Tg (wpA P a Q e σ, wpA P b Q e σ)) := _root_.id rfl
@[go_sem ↓] theorem wpA_block (id : Nat) (c : ACode) (Q : AQ) (e : Env) (σ : Store) : wpA P (.block id c) Q e σ = wpA P c (blockQ id Q) e σ := _root_.id rfl
@[go_sem ↓] theorem wpA_exit (id : Nat) (Q : AQ) (e : Env) (σ : Store) : wpA P (.exit id) Q e σ = Q (.exit id) e σ := _root_.id rfl
@[go_sem ↓] theorem wpA_ret (Q : AQ) (e : Env) (σ : Store) : wpA P .ret Q e σ = Q .ret e σ := _root_.id rfl
@[go_sem ↓] theorem wpA_label (l : Nat) (Q : AQ) (e : Env) (σ : Store) : wpA P (.label l) Q e σ = Q .normal e σ := _root_.id rfl
@[go_sem ↓] theorem wpA_goto (l : Nat) (Q : AQ) (e : Env) (σ : Store) : wpA P (.goto l) Q e σ = Q (.goto l) e σ := _root_.id rfl
/-- A loop, to be opened by hand. -/
def loopT (P : Program) (c : ACode) (Q : AQ) (e : Env) (σ : Store) : Prop := LoopA (wpA P c) Q e σ
def loopK {c : ACode} {Q : AQ} {e : Env} {σ : Store} (P : Program) (_ : Tg (c, Q, e, σ)) : Prop := LoopA (wpA P c) Q e σ
@[go_sem ↓] theorem wpA_loop (c : ACode) (Q : AQ) (e : Env) (σ : Store) : wpA P (.loop c) Q e σ = loopK P (.mk : Tg (c, Q, e, σ)) := _root_.id rfl
def scopeK {l : Nat} {c r : ACode} {Q : AQ} {e : Env} {σ : Store} (P : Program) (_ : Tg (l, c, r, Q, e, σ)) : Prop := ScopeA l (wpA P c) (wpA P r) Q e σ
@[go_sem ↓] theorem wpA_scope (l : Nat) (c r : ACode) (Q : AQ) (e : Env) (σ : Store) : wpA P (.scope l c r) Q e σ = scopeK P (.mk : Tg (l, c, r, Q, e, σ)) := _root_.id rfl
def rngK {nt : Nat} {ps : List Nat} {a b : ACode} {Q : AQ} {e : Env} {σ : Store} (P : Program) (f : AV) (_ : Tg (nt, ps, a, b, Q, e, σ)) : Prop := RngA P nt ps f (wpA P a) (wpA P b) Q e σ
@[go_sem ↓] theorem wpA_rng (f : AX) (nt : Nat) (ps : List Nat) (a b : ACode) (Q : AQ) (e : Env) (σ : Store) : wpA P (.rng f nt ps a b) Q e σ = rngK P (f.ev e) (.mk : Tg (nt, ps, a, b, Q, e, σ)) := _root_.id rfl
@[go_sem ↓] theorem thenQ_normal (K : Env → Store → Prop) (Q : AQ) (e : Env) (σ : Store) : thenQ K Q .normal e σ = K e σ := _root_.id rfl
@[go_sem ↓] theorem thenQ_exit (K : Env → Store → Prop) (Q : AQ) (i : Nat) (e : Env) (σ : Store) : thenQ K Q (.exit i) e σ = Q (.exit i) e σ := _root_.id rfl
@[go_sem ↓] theorem thenQ_ret (K : Env → Store → Prop) (Q : AQ) (e : Env) (σ : Store) : thenQ K Q .ret e σ = Q .ret e σ := _root_.id rfl
@[go_sem ↓] theorem thenQ_goto (K : Env → Store → Prop) (Q : AQ) (l : Nat) (e : Env) (σ : Store) : thenQ K Q (.goto l) e σ = Q (.goto l) e σ := _root_.id rfl
@[go_sem ↓] theorem thenQ_panic (K : Env → Store → Prop) (Q : AQ) (v : AV) (e : Env) (σ : Store) : thenQ K Q (.panic v) e σ = Q (.panic v) e σ := _root_.id rfl
@[go_sem ↓] theorem blockQ_normal (id : Nat) (Q : AQ) (e : Env) (σ : Store) : blockQ id Q .normal e σ = Q .normal e σ := _root_.id rfl
@[go_sem ↓] theorem blockQ_ret (id : Nat) (Q : AQ) (e : Env) (σ : Store) : blockQ id Q .ret e σ = Q .ret e σ := _root_.id rfl
@[go_sem ↓] theorem blockQ_goto (id l : Nat) (Q : AQ) (e : Env) (σ : Store) : blockQ id Q (.goto l) e σ = Q (.goto l) e σ := _root_.id rfl
@[go_sem ↓] theorem blockQ_panic (id : Nat) (Q : AQ) (v : AV) (e : Env) (σ : Store) : blockQ id Q (.panic v) e σ = Q (.panic v) e σ := _root_.id rfl
def exitK (c : Bool) {T E : Prop} (_ : Tg (T, E)) : Prop := if c then T else E
@[go_sem] theorem exitK_t (T E : Prop) : exitK true (.mk : Tg (T, E)) = T := by simp [exitK]
@[go_sem] theorem exitK_f (T E : Prop) : exitK false (.mk : Tg (T, E)) = E := by simp [exitK]
@[go_sem ↓] theorem blockQ_exit (id i : Nat) (Q : AQ) (e : Env) (σ : Store) : blockQ id Q (.exit i) e σ = exitK (i == id) (.mk : Tg (Q .normal e σ, Q (.exit i) e σ)) := by
  simp only [blockQ, exitK, beq_iff_eq]
@[go_sem ↓] theorem condQ_normal (prs : List (AX × AX)) (Q : AQ) (e : Env) (σ : Store) : condQ prs Q .normal e σ = req (apartAll prs e) (.mk : Tg (Q .normal e σ)) := and_req _ _
@[go_sem ↓] theorem condQ_panic (prs : List (AX × AX)) (Q : AQ) (v : AV) (e : Env) (σ : Store) : condQ prs Q (.panic v) e σ = Q (.panic v) e σ := _root_.id rfl

/-! ### Operations, one behind the other -/
@[go_sem ↓] theorem runOps_nil (Q : AQ) (e : Env) (σ : Store) : runOps P Q [] e σ = Q .normal e σ := _root_.id rfl
@[go_sem ↓] theorem runOps_cons (Q : AQ) (o : AOp) (d : Option Nat) (r : List GOp) (e : Env) (σ : Store) :
    runOps P Q (⟨o, d, none⟩ :: r) e σ = o.run P e σ (fun v σ' => bindV v (.mk : Tg fun v => bindS σ' (.mk : Tg fun σ' => runOps P Q r (upd e d v) σ'))) (fun v σ' => Q (.panic v) e σ') := rfl
def guardK (v : AV) (b : Bool) {T E U : Prop} (_ : Tg (T, E, U)) : Prop :=
  match v with
  | .bool t => (t = b → T) ∧ (t = !b → E)
  | .tup [] => U
  | _ => False
@[go_sem] theorem guardK_tt (T E U : Prop) : guardK (.bool true) true (.mk : Tg (T, E, U)) = T := by simp [guardK]
@[go_sem] theorem guardK_ff (T E U : Prop) : guardK (.bool false) false (.mk : Tg (T, E, U)) = T := by simp [guardK]
@[go_sem] theorem guardK_tf (T E U : Prop) : guardK (.bool true) false (.mk : Tg (T, E, U)) = E := by simp [guardK]
@[go_sem] theorem guardK_ft (T E U : Prop) : guardK (.bool false) true (.mk : Tg (T, E, U)) = E := by simp [guardK]
@[go_sem] theorem guardK_u (b : Bool) (T E U : Prop) : guardK (.tup []) b (.mk : Tg (T, E, U)) = U := by simp [guardK]
theorem guardK_i {t b : Bool} {T E U : Prop} (h : t = b → T) (h' : t = !b → E) : guardK (.bool t) b (.mk : Tg (T, E, U)) := ⟨h, h'⟩
@[go_sem ↓] theorem runOps_guard (Q : AQ) (o : AOp) (d : Option Nat) (k : Nat) (b : Bool) (r : List GOp) (e : Env) (σ : Store) :
    runOps P Q (⟨o, d, some (k, b)⟩ :: r) e σ = guardK (e k) b (.mk : Tg (o.run P (upd e (some k) (.bool b)) σ (fun v σ' => bindV v (.mk : Tg fun v => bindS σ' (.mk : Tg fun σ' => runOps P Q r (upd (upd e (some k) (.bool b)) d v) σ'))) (fun v σ' => Q (.panic v) (upd e (some k) (.bool b)) σ'),
      runOps P Q r (upd (upd e (some k) (.bool (!b))) d (.tup [])) σ, runOps P Q r (upd e d (.tup [])) σ)) := by
  simp only [runOps, guardK, bindV, bindS]
  cases e k <;> rfl

section
variable (e : Env) (σ : Store) (K Kp : AV → Store → Prop)
@[go_sem ↓] theorem run_mv (x : AX) : AOp.run P (.mv x) e σ K Kp = K (x.ev e) σ := _root_.id rfl
@[go_sem ↓] theorem run_alloc (cs : List AV) : AOp.run P (.alloc none cs) e σ K Kp = K (.ref σ.length 0) (σ ++ [.cells cs]) := _root_.id rfl
@[go_sem ↓] theorem run_allocT (T : TypeId) (cs : List AV) : AOp.run P (.alloc (some T) cs) e σ K Kp = K (.ref σ.length 0) (σ ++ [.cellsT (some T) cs]) := _root_.id rfl
@[go_sem ↓] theorem run_mkvec (el : El) : AOp.run P (.mkvec el) e σ K Kp = K (.own el σ.length 0 0 0) (σ ++ [.vec el []]) := _root_.id rfl
@[go_sem ↓] theorem run_mkifc (t : TypeId) (x : AX) : AOp.run P (.mkifc t x) e σ K Kp = K (.ifc t (x.ev e)) σ := _root_.id rfl
@[go_sem ↓] theorem run_mkfn (f : Fn) (a b : List AX) : AOp.run P (.mkfn f a b) e σ K Kp = K (.fn f (a.map (AX.ev e)) (b.map (AX.ev e))) σ := _root_.id rfl
def boxT (v : AV) (σ : Store) {K : AV → Store → Prop} (_ : Tg K) : Prop := v.cells.all AV.scalar = true ∧ K (.ref σ.length 0) (σ ++ [.cells v.cells])
@[go_sem ↓] theorem run_box (x : AX) : AOp.run P (.box x) e σ K Kp = boxT (x.ev e) σ (.mk : Tg K) := _root_.id rfl
def selT (c a b : AV) {K : AV → Prop} (_ : Tg K) : Prop := match c with | .bool t => K (if t then a else b) | _ => False
@[go_sem ↓] theorem run_pick (c a b : AX) : AOp.run P (.pick c a b) e σ K Kp = selT (c.ev e) (a.ev e) (b.ev e) (.mk : Tg fun v => K v σ) := by
  simp only [AOp.run, selT]; rfl
def loadT (σ : Store) (ag : Bool) (n : Nat) (p : AV) {K : AV → Prop} (_ : Tg K) : Prop := loadA σ ag n p K
def storeT (σ : Store) (n : Nat) (p v : AV) {K : Store → Prop} (_ : Tg K) : Prop := storeA σ n p v K
def binT (op : BinOp) (x y : AV) {K : AV → Prop} (_ : Tg K) : Prop := binA op x y K
def unT (op : UnOp) (x : AV) {K : AV → Prop} (_ : Tg K) : Prop := unA op x K
@[go_sem ↓] theorem run_load (ag : Bool) (n : Nat) (x : AX) : AOp.run P (.load ag n x) e σ K Kp = loadT σ ag n (x.ev e) (.mk : Tg fun v => K v σ) := _root_.id rfl
@[go_sem ↓] theorem run_store (n : Nat) (x v : AX) : AOp.run P (.store n x v) e σ K Kp = storeT σ n (x.ev e) (v.ev e) (.mk : Tg fun σ' => K (.tup []) σ') := _root_.id rfl
@[go_sem ↓] theorem run_bin (op : BinOp) (x y : AX) : AOp.run P (.bin op x y) e σ K Kp = binT op (x.ev e) (y.ev e) (.mk : Tg fun v => K v σ) := _root_.id rfl
@[go_sem ↓] theorem run_un (op : UnOp) (x : AX) : AOp.run P (.un op x) e σ K Kp = unT op (x.ev e) (.mk : Tg fun v => K v σ) := _root_.id rfl
def lenT (s : Bool) (x : AV) {K : AV → Prop} (_ : Tg K) : Prop := match s, x with
    | true, .str s => K (.int .i64 s.length)
    | false, .nils => K (.int .i64 0)
    | false, .lst _ _ xs => K (.int .i64 xs.length)
    | false, .own _ _ _ _ n => K (.int .i64 n)
    | _, _ => False
@[go_sem ↓] theorem run_len (s : Bool) (x : AX) : AOp.run P (.len s x) e σ K Kp = lenT s (x.ev e) (.mk : Tg fun v => K v σ) := by
  simp only [AOp.run, lenT]; rfl
def extT (x : AV) (i : Nat) {K : AV → Prop} (_ : Tg K) : Prop := match x with | .tup vs => i < vs.length ∧ K (vs.getD i .undef) | _ => False
@[go_sem ↓] theorem run_ext (x : AX) (i : Nat) : AOp.run P (.ext x i) e σ K Kp = extT (x.ev e) i (.mk : Tg fun v => K v σ) := by
  simp only [AOp.run, extT]; rfl
def minsT (op : Bool) (x : AV) (xs : List AV) {K : AV → Prop} (_ : Tg K) : Prop := minsA op x xs K
@[go_sem ↓] theorem run_min (x : AX) (xs : List AX) : AOp.run P (.min x xs) e σ K Kp = minsT true (x.ev e) (xs.map (AX.ev e)) (.mk : Tg fun v => K v σ) := _root_.id rfl
@[go_sem ↓] theorem run_max (x : AX) (xs : List AX) : AOp.run P (.max x xs) e σ K Kp = minsT false (x.ev e) (xs.map (AX.ev e)) (.mk : Tg fun v => K v σ) := _root_.id rfl
def outK (K Kp : AV → Store → Prop) : Out → Store → Prop
  | .ret r, σ => K r σ
  | .panic r, σ => Kp r σ
def callT (P : Program) (q : Bool) (f : AV) (args : List AV) (σ : Store) {K Kp : AV → Store → Prop} (_ : Tg (K, Kp)) : Prop := match f with
    | .fn (.func n) first cap =>
      if q then ∃ r, (∀ τ, CallQ P n (first ++ args ++ cap) (σ ++ τ) r) ∧ K r σ
      else CallA P n (first ++ args ++ cap) σ (outK K Kp)
    | .yld l => if q then False else YieldA P l args σ (outK K Kp)
    | _ => False
theorem callT_yld {l : Nat} {args : List AV} {σ : Store} {K Kp : AV → Store → Prop} {R : Out → Store → Prop} (h : YieldA P l args σ R) (hk : ∀ o s, R o s → outK K Kp o s) : callT P false (.yld l) args σ (.mk : Tg (K, Kp)) := h.mono hk
@[go_sem ↓] theorem run_call (q : Bool) (f : AX) (args : List AX) : AOp.run P (.call q f args) e σ K Kp = callT P q (f.ev e) (args.map (AX.ev e)) σ (.mk : Tg (K, Kp)) := by
  simp only [AOp.run, callT]; rfl

/-! ### On values -/
theorem wrapK_i64 {n : Int} (h : -9223372036854775808 ≤ n) (h' : n ≤ 9223372036854775807) : wrapK .i64 n = n := IntWalk.i64_in n ⟨h, h'⟩
@[go_sem] theorem selT_t (a b : AV) (K : AV → Prop) : selT (.bool true) a b (.mk : Tg K) = bindV a (.mk : Tg K) := _root_.id rfl
@[go_sem] theorem selT_f (a b : AV) (K : AV → Prop) : selT (.bool false) a b (.mk : Tg K) = bindV b (.mk : Tg K) := _root_.id rfl
@[go_sem] theorem boxT_eq (v : AV) (K : AV → Store → Prop) : boxT v σ (.mk : Tg K) = req (v.cells.all AV.scalar = true) (.mk : Tg (K (.ref σ.length 0) (σ ++ [.cells v.cells]))) := and_req _ _
variable (k : IntKind) (a b : Int) (s t : List UInt8) (p q : Bool) (K : AV → Prop)
@[go_sem] theorem binT_add : binT .add (.int k a) (.int k b) (.mk : Tg K) = K (.int k (wrapK k (a + b))) := by simp [binT, binA]
@[go_sem] theorem binT_sub : binT .sub (.int k a) (.int k b) (.mk : Tg K) = K (.int k (wrapK k (a - b))) := by simp [binT, binA]
@[go_sem] theorem binT_mul : binT .mul (.int k a) (.int k b) (.mk : Tg K) = K (.int k (wrapK k (a * b))) := by simp [binT, binA]
@[go_sem] theorem binT_quo : binT .quo (.int k a) (.int k b) (.mk : Tg K) = req (b ≠ 0) (.mk : Tg (K (.int k (wrapK k (a.tdiv b))))) := by rw [← and_req]; simp [binT, binA]
@[go_sem] theorem binT_rem : binT .rem (.int k a) (.int k b) (.mk : Tg K) = req (b ≠ 0) (.mk : Tg (K (.int k (a.tmod b)))) := by rw [← and_req]; simp [binT, binA]
@[go_sem] theorem binT_eql : binT .eql (.int k a) (.int k b) (.mk : Tg K) = K (.bool (a == b)) := by simp [binT, binA]
@[go_sem] theorem binT_neq : binT .neq (.int k a) (.int k b) (.mk : Tg K) = K (.bool (!(a == b))) := by simp [binT, binA]
@[go_sem] theorem binT_lss : binT .lss (.int k a) (.int k b) (.mk : Tg K) = K (.bool (decide (a < b))) := by simp [binT, binA]
@[go_sem] theorem binT_leq : binT .leq (.int k a) (.int k b) (.mk : Tg K) = K (.bool (decide (a ≤ b))) := by simp [binT, binA]
@[go_sem] theorem binT_gtr : binT .gtr (.int k a) (.int k b) (.mk : Tg K) = K (.bool (decide (b < a))) := by simp [binT, binA]
@[go_sem] theorem binT_geq : binT .geq (.int k a) (.int k b) (.mk : Tg K) = K (.bool (decide (b ≤ a))) := by simp [binT, binA]
@[go_sem] theorem binT_addS : binT .add (.str s) (.str t) (.mk : Tg K) = req (((s.length + t.length : Nat) : Int) ≤ IntKind.i64.max) (.mk : Tg (K (.str (s ++ t)))) := by rw [← and_req]; simp [binT, binA]
@[go_sem] theorem binT_eqlS : binT .eql (.str s) (.str t) (.mk : Tg K) = K (.bool (s == t)) := by simp [binT, binA]
@[go_sem] theorem binT_neqS : binT .neq (.str s) (.str t) (.mk : Tg K) = K (.bool (!(s == t))) := by simp [binT, binA]
@[go_sem] theorem unT_not : unT .not (.bool p) (.mk : Tg K) = K (.bool (!p)) := _root_.id rfl
@[go_sem] theorem lenT_s : lenT true (.str s) (.mk : Tg K) = K (.int .i64 s.length) := _root_.id rfl
@[go_sem] theorem lenT_nils : lenT false .nils (.mk : Tg K) = K (.int .i64 0) := _root_.id rfl
@[go_sem] theorem lenT_lst (f : Bool) (el : El) (xs : List AV) : lenT false (.lst f el xs) (.mk : Tg K) = K (.int .i64 xs.length) := _root_.id rfl
@[go_sem] theorem lenT_own (el : El) (l m lo n : Nat) : lenT false (.own el l m lo n) (.mk : Tg K) = K (.int .i64 n) := _root_.id rfl
@[go_sem] theorem extT_tup (vs : List AV) (i : Nat) : extT (.tup vs) i (.mk : Tg K) = req (i < vs.length) (.mk : Tg (K (vs.getD i .undef))) := and_req _ _
@[go_sem] theorem minsT_nil (op : Bool) (x : AV) : minsT op x [] (.mk : Tg K) = K x := _root_.id rfl
@[go_sem] theorem minsT_i (ys : List AV) : minsT true (.int k a) (.int k b :: ys) (.mk : Tg K) = minsT true (.int k (if b < a then b else a)) ys (.mk : Tg K) := _root_.id rfl
@[go_sem] theorem maxsT_i (ys : List AV) : minsT false (.int k a) (.int k b :: ys) (.mk : Tg K) = minsT false (.int k (if a < b then b else a)) ys (.mk : Tg K) := _root_.id rfl
@[go_sem ↓] theorem retQ_ret (rs : List ARes) (R : Out → Store → Prop) : retQ rs R .ret e σ = resA e σ rs fun vs => R (.ret (oneOf vs)) σ := _root_.id rfl
@[go_sem ↓] theorem retQ_normal (rs : List ARes) (R : Out → Store → Prop) : retQ rs R .normal e σ = resA e σ rs fun vs => R (.ret (oneOf vs)) σ := _root_.id rfl
@[go_sem ↓] theorem resA_nil (K : List AV → Prop) : resA e σ [] K = K [] := _root_.id rfl
@[go_sem ↓] theorem resA_tmp (t : Nat) (r : List ARes) (K : List AV → Prop) : resA e σ (.tmp t :: r) K = resA e σ r fun vs => K (e t :: vs) := _root_.id rfl
end
end Go.AM
