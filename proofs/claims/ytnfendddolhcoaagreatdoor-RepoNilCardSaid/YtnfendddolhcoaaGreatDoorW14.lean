/- Part of a proof: see Root. -/
import Derived.Test.YtnfendddolhcoaaGreatDoorW13
import Derived.IntWalk
set_option linter.unnecessarySimpa false
set_option linter.unusedSectionVars false
set_option linter.unusedSimpArgs false
set_option linter.unusedVariables false
namespace Go.AM
variable {P : Program}
universe u
inductive Tg {α : Sort u} (K : α) : Type where
  | mk
def bindV (v : AV) {K : AV → Prop} (_ : Tg K) : Prop := K v
def bindS (σ : Store) {K : Store → Prop} (_ : Tg K) : Prop := K σ
@[go_sem] theorem bindV_eq (v : AV) (K : AV → Prop) : bindV v (.mk : Tg K) = K v := _root_.id rfl
@[go_sem] theorem bindS_eq (v : Store) (K : Store → Prop) : bindS v (.mk : Tg K) = K v := _root_.id rfl
def req (p : Prop) {K : Prop} (_ : Tg K) : Prop := p ∧ (p → K)
@[go_sem] theorem req_true (K : Prop) : req True (.mk : Tg K) = K := by simp [req]
theorem and_req (p K : Prop) : (p ∧ K) = req p (.mk : Tg K) := by simp only [req]; exact propext ⟨fun h => ⟨h.1, fun _ => h.2⟩, fun h => ⟨h.1, h.2 h.1⟩⟩
@[go_sem ↓] theorem ev_t (e : Env) (n : Nat) : AX.ev e (.t n) = e n := _root_.id rfl
@[go_sem ↓] theorem ev_c (e : Env) (a : AV) : AX.ev e (.c a) = a := _root_.id rfl
def pickT (c : Bool) {a b : AV} (_ : Tg (a, b)) : AV := if c then a else b
@[go_sem] theorem pickT_t (a b : AV) : pickT true (.mk : Tg (a, b)) = a := _root_.id rfl
@[go_sem] theorem pickT_f (a b : AV) : pickT false (.mk : Tg (a, b)) = b := _root_.id rfl
@[go_sem ↓] theorem upd_app (e : Env) (d : Nat) (v : AV) (n : Nat) : upd e (some d) v n = pickT (n == d) (.mk : Tg (v, e n)) := by
  simp only [upd, pickT, beq_iff_eq]
@[go_sem ↓] theorem upd_none (e : Env) (v : AV) : upd e none v = e := _root_.id rfl
@[go_sem] theorem envOf_zero (a : AV) (az : List AV) : envOf (a :: az) 0 = a := _root_.id rfl
@[go_sem] theorem envOf_succ (a : AV) (az : List AV) (n : Nat) : envOf (a :: az) (n + 1) = envOf az n := _root_.id rfl
def condA (v : AV) {T E : Prop} (_ : Tg (T, E)) : Prop :=
  match v with
  | .bool t => (t = true → T) ∧ (t = false → E)
  | _ => False
@[go_sem] theorem condA_true (T E : Prop) : condA (.bool true) (.mk : Tg (T, E)) = T := by simp [condA]
@[go_sem] theorem condA_false (T E : Prop) : condA (.bool false) (.mk : Tg (T, E)) = E := by simp [condA]
theorem condA_i {t : Bool} {T E : Prop} (h : t = true → T) (h' : t = false → E) : condA (.bool t) (.mk : Tg (T, E)) := ⟨h, h'⟩
@[go_sem ↓] theorem wpA_skip (Q : AQ) (e : Env) (σ : Store) : wpA P .skip Q e σ = Q .normal e σ := _root_.id rfl
@[go_sem ↓] theorem wpA_region (ops : List GOp) (Q : AQ) (e : Env) (σ : Store) : wpA P (.region ops) Q e σ = runOps P Q ops e σ := _root_.id rfl
@[go_sem ↓] theorem wpA_seq (a b : ACode) (Q : AQ) (e : Env) (σ : Store) : wpA P (.seq a b) Q e σ = wpA P a (thenQ (wpA P b Q) Q) e σ := _root_.id rfl
@[go_sem ↓] theorem wpA_cond (c : AX) (a b : ACode) (Q : AQ) (e : Env) (σ : Store) : wpA P (.cond c a b) Q e σ = condA (c.ev e) (.mk : Tg (wpA P a Q e σ, wpA P b Q e σ)) := _root_.id rfl
@[go_sem ↓] theorem wpA_block (id : Nat) (c : ACode) (Q : AQ) (e : Env) (σ : Store) : wpA P (.block id c) Q e σ = wpA P c (blockQ id Q) e σ := _root_.id rfl
@[go_sem ↓] theorem wpA_exit (id : Nat) (Q : AQ) (e : Env) (σ : Store) : wpA P (.exit id) Q e σ = Q (.exit id) e σ := _root_.id rfl
@[go_sem ↓] theorem wpA_ret (Q : AQ) (e : Env) (σ : Store) : wpA P .ret Q e σ = Q .ret e σ := _root_.id rfl
def loopK {c : ACode} {Q : AQ} {e : Env} {σ : Store} (P : Program) (_ : Tg (c, Q, e, σ)) : Prop := LoopA (wpA P c) Q e σ
@[go_sem ↓] theorem wpA_loop (c : ACode) (Q : AQ) (e : Env) (σ : Store) : wpA P (.loop c) Q e σ = loopK P (.mk : Tg (c, Q, e, σ)) := _root_.id rfl
def scopeK {l : Nat} {c r : ACode} {Q : AQ} {e : Env} {σ : Store} (P : Program) (_ : Tg (l, c, r, Q, e, σ)) : Prop := ScopeA l (wpA P c) (wpA P r) Q e σ
@[go_sem ↓] theorem thenQ_normal (K : Env → Store → Prop) (Q : AQ) (e : Env) (σ : Store) : thenQ K Q .normal e σ = K e σ := _root_.id rfl
@[go_sem ↓] theorem thenQ_exit (K : Env → Store → Prop) (Q : AQ) (i : Nat) (e : Env) (σ : Store) : thenQ K Q (.exit i) e σ = Q (.exit i) e σ := _root_.id rfl
@[go_sem ↓] theorem thenQ_ret (K : Env → Store → Prop) (Q : AQ) (e : Env) (σ : Store) : thenQ K Q .ret e σ = Q .ret e σ := _root_.id rfl
@[go_sem ↓] theorem blockQ_normal (id : Nat) (Q : AQ) (e : Env) (σ : Store) : blockQ id Q .normal e σ = Q .normal e σ := _root_.id rfl
@[go_sem ↓] theorem blockQ_ret (id : Nat) (Q : AQ) (e : Env) (σ : Store) : blockQ id Q .ret e σ = Q .ret e σ := _root_.id rfl
def exitK (c : Bool) {T E : Prop} (_ : Tg (T, E)) : Prop := if c then T else E
@[go_sem] theorem exitK_t (T E : Prop) : exitK true (.mk : Tg (T, E)) = T := by simp [exitK]
@[go_sem ↓] theorem blockQ_exit (id i : Nat) (Q : AQ) (e : Env) (σ : Store) : blockQ id Q (.exit i) e σ = exitK (i == id) (.mk : Tg (Q .normal e σ, Q (.exit i) e σ)) := by
  simp only [blockQ, exitK, beq_iff_eq]
@[go_sem ↓] theorem runOps_nil (Q : AQ) (e : Env) (σ : Store) : runOps P Q [] e σ = Q .normal e σ := _root_.id rfl
@[go_sem ↓] theorem runOps_cons (Q : AQ) (o : AOp) (d : Option Nat) (r : List GOp) (e : Env) (σ : Store) :
    runOps P Q (⟨o, d, none⟩ :: r) e σ = o.run P e σ (fun v σ' => bindV v (.mk : Tg fun v => bindS σ' (.mk : Tg fun σ' => runOps P Q r (upd e d v) σ'))) (fun v σ' => Q (.panic v) e σ') := rfl
def guardK (v : AV) (b : Bool) {T E U : Prop} (_ : Tg (T, E, U)) : Prop :=
  match v with
  | .bool t => (t = b → T) ∧ (t = !b → E)
  | .tup [] => U
  | _ => False
@[go_sem] theorem guardK_tt (T E U : Prop) : guardK (.bool true) true (.mk : Tg (T, E, U)) = T := by simp [guardK]
@[go_sem] theorem guardK_ff (T E U : Prop) : guardK (.bool false) false (.mk : Tg (T, E, U)) = T := by simp [guardK]
@[go_sem] theorem guardK_tf (T E U : Prop) : guardK (.bool true) false (.mk : Tg (T, E, U)) = E := by simp [guardK]
theorem guardK_i {t b : Bool} {T E U : Prop} (h : t = b → T) (h' : t = !b → E) : guardK (.bool t) b (.mk : Tg (T, E, U)) := ⟨h, h'⟩
@[go_sem ↓] theorem runOps_guard (Q : AQ) (o : AOp) (d : Option Nat) (k : Nat) (b : Bool) (r : List GOp) (e : Env) (σ : Store) :
    runOps P Q (⟨o, d, some (k, b)⟩ :: r) e σ = guardK (e k) b (.mk : Tg (o.run P (upd e (some k) (.bool b)) σ (fun v σ' => bindV v (.mk : Tg fun v => bindS σ' (.mk : Tg fun σ' => runOps P Q r (upd (upd e (some k) (.bool b)) d v) σ'))) (fun v σ' => Q (.panic v) (upd e (some k) (.bool b)) σ'),
      runOps P Q r (upd (upd e (some k) (.bool (!b))) d (.tup [])) σ, runOps P Q r (upd e d (.tup [])) σ)) := by
  simp only [runOps, guardK, bindV, bindS]
  cases e k <;> rfl
section
variable (e : Env) (σ : Store) (K Kp : AV → Store → Prop)
@[go_sem ↓] theorem run_mv (x : AX) : AOp.run P (.mv x) e σ K Kp = K (x.ev e) σ := _root_.id rfl
@[go_sem ↓] theorem run_alloc (cs : List AV) : AOp.run P (.alloc none cs) e σ K Kp = K (.ref σ.length 0) (σ ++ [.cells cs]) := _root_.id rfl
def boxT (v : AV) (σ : Store) {K : AV → Store → Prop} (_ : Tg K) : Prop := v.cells.all AV.scalar = true ∧ K (.ref σ.length 0) (σ ++ [.cells v.cells])
@[go_sem ↓] theorem run_box (x : AX) : AOp.run P (.box x) e σ K Kp = boxT (x.ev e) σ (.mk : Tg K) := _root_.id rfl
def selT (c a b : AV) {K : AV → Prop} (_ : Tg K) : Prop := match c with | .bool t => K (if t then a else b) | _ => False
@[go_sem ↓] theorem run_pick (c a b : AX) : AOp.run P (.pick c a b) e σ K Kp = selT (c.ev e) (a.ev e) (b.ev e) (.mk : Tg fun v => K v σ) := by
  simp only [AOp.run, selT]; rfl
def loadT (σ : Store) (ag : Bool) (n : Nat) (p : AV) {K : AV → Prop} (_ : Tg K) : Prop := loadA σ ag n p K
def storeT (σ : Store) (n : Nat) (p v : AV) {K : Store → Prop} (_ : Tg K) : Prop := storeA σ n p v K
def binT (op : BinOp) (x y : AV) {K : AV → Prop} (_ : Tg K) : Prop := binA op x y K
def unT (op : UnOp) (x : AV) {K : AV → Prop} (_ : Tg K) : Prop := unA op x K
@[go_sem ↓] theorem run_load (ag : Bool) (n : Nat) (x : AX) : AOp.run P (.load ag n x) e σ K Kp = loadT σ ag n (x.ev e) (.mk : Tg fun v => K v σ) := _root_.id rfl
@[go_sem ↓] theorem run_store (n : Nat) (x v : AX) : AOp.run P (.store n x v) e σ K Kp = storeT σ n (x.ev e) (v.ev e) (.mk : Tg fun σ' => K (.tup []) σ') := _root_.id rfl
@[go_sem ↓] theorem run_bin (op : BinOp) (x y : AX) : AOp.run P (.bin op x y) e σ K Kp = binT op (x.ev e) (y.ev e) (.mk : Tg fun v => K v σ) := _root_.id rfl
@[go_sem ↓] theorem run_un (op : UnOp) (x : AX) : AOp.run P (.un op x) e σ K Kp = unT op (x.ev e) (.mk : Tg fun v => K v σ) := _root_.id rfl
def lenT (s : Bool) (x : AV) {K : AV → Prop} (_ : Tg K) : Prop := match s, x with
    | true, .str s => K (.int .i64 s.length)
    | false, .nils => K (.int .i64 0)
    | false, .lst _ _ xs => K (.int .i64 xs.length)
    | false, .own _ _ _ _ n => K (.int .i64 n)
    | _, _ => False
@[go_sem ↓] theorem run_len (s : Bool) (x : AX) : AOp.run P (.len s x) e σ K Kp = lenT s (x.ev e) (.mk : Tg fun v => K v σ) := by
  simp only [AOp.run, lenT]; rfl
def extT (x : AV) (i : Nat) {K : AV → Prop} (_ : Tg K) : Prop := match x with | .tup vs => i < vs.length ∧ K (vs.getD i .undef) | _ => False
@[go_sem ↓] theorem run_ext (x : AX) (i : Nat) : AOp.run P (.ext x i) e σ K Kp = extT (x.ev e) i (.mk : Tg fun v => K v σ) := by
  simp only [AOp.run, extT]; rfl
def outK (K Kp : AV → Store → Prop) : Out → Store → Prop
  | .ret r, σ => K r σ
  | .panic r, σ => Kp r σ
def callT (P : Program) (q : Bool) (f : AV) (args : List AV) (σ : Store) {K Kp : AV → Store → Prop} (_ : Tg (K, Kp)) : Prop := match f with
    | .fn (.func n) first cap =>
      if q then ∃ r, (∀ τ, CallQ P n (first ++ args ++ cap) (σ ++ τ) r) ∧ K r σ
      else CallA P n (first ++ args ++ cap) σ (outK K Kp)
    | .yld l => if q then False else YieldA P l args σ (outK K Kp)
    | _ => False
@[go_sem ↓] theorem run_call (q : Bool) (f : AX) (args : List AX) : AOp.run P (.call q f args) e σ K Kp = callT P q (f.ev e) (args.map (AX.ev e)) σ (.mk : Tg (K, Kp)) := by
  simp only [AOp.run, callT]; rfl
theorem wrapK_i64 {n : Int} (h : -9223372036854775808 ≤ n) (h' : n ≤ 9223372036854775807) : wrapK .i64 n = n := IntWalk.i64_in n ⟨h, h'⟩
@[go_sem] theorem selT_t (a b : AV) (K : AV → Prop) : selT (.bool true) a b (.mk : Tg K) = bindV a (.mk : Tg K) := _root_.id rfl
@[go_sem] theorem selT_f (a b : AV) (K : AV → Prop) : selT (.bool false) a b (.mk : Tg K) = bindV b (.mk : Tg K) := _root_.id rfl
@[go_sem] theorem boxT_eq (v : AV) (K : AV → Store → Prop) : boxT v σ (.mk : Tg K) = req (v.cells.all AV.scalar = true) (.mk : Tg (K (.ref σ.length 0) (σ ++ [.cells v.cells]))) := and_req _ _
variable (k : IntKind) (a b : Int) (s t : List UInt8) (p q : Bool) (K : AV → Prop)
@[go_sem] theorem binT_add : binT .add (.int k a) (.int k b) (.mk : Tg K) = K (.int k (wrapK k (a + b))) := by simp [binT, binA]
@[go_sem] theorem binT_sub : binT .sub (.int k a) (.int k b) (.mk : Tg K) = K (.int k (wrapK k (a - b))) := by simp [binT, binA]
@[go_sem] theorem binT_eql : binT .eql (.int k a) (.int k b) (.mk : Tg K) = K (.bool (a == b)) := by simp [binT, binA]
@[go_sem] theorem binT_neq : binT .neq (.int k a) (.int k b) (.mk : Tg K) = K (.bool (!(a == b))) := by simp [binT, binA]
@[go_sem] theorem binT_lss : binT .lss (.int k a) (.int k b) (.mk : Tg K) = K (.bool (decide (a < b))) := by simp [binT, binA]
@[go_sem] theorem binT_gtr : binT .gtr (.int k a) (.int k b) (.mk : Tg K) = K (.bool (decide (b < a))) := by simp [binT, binA]
@[go_sem] theorem unT_not : unT .not (.bool p) (.mk : Tg K) = K (.bool (!p)) := _root_.id rfl
@[go_sem] theorem lenT_s : lenT true (.str s) (.mk : Tg K) = K (.int .i64 s.length) := _root_.id rfl
@[go_sem] theorem lenT_nils : lenT false .nils (.mk : Tg K) = K (.int .i64 0) := _root_.id rfl
@[go_sem] theorem lenT_lst (f : Bool) (el : El) (xs : List AV) : lenT false (.lst f el xs) (.mk : Tg K) = K (.int .i64 xs.length) := _root_.id rfl
@[go_sem] theorem extT_tup (vs : List AV) (i : Nat) : extT (.tup vs) i (.mk : Tg K) = req (i < vs.length) (.mk : Tg (K (vs.getD i .undef))) := and_req _ _
@[go_sem ↓] theorem resA_nil (K : List AV → Prop) : resA e σ [] K = K [] := _root_.id rfl
@[go_sem ↓] theorem resA_tmp (t : Nat) (r : List ARes) (K : List AV → Prop) : resA e σ (.tmp t :: r) K = resA e σ r fun vs => K (e t :: vs) := _root_.id rfl
end
end Go.AM
namespace Go.AM
variable {P : Program}
section
variable (e : Env) (σ : Store) (K Kp : AV → Store → Prop)
def loadO (o : Option AObj) (off : Nat) (ag : Bool) (n : Nat) {K : AV → Prop} (_ : Tg K) : Prop := match o with
  | some (.cellsT _ cs) => off + n ≤ cs.length ∧ (ag = false → n = 1) ∧ K (if ag then .agg ((cs.drop off).take n) else cs.getD off .undef)
  | _ => False
@[go_sem] theorem loadT_ref (ag : Bool) (n l off : Nat) (K : AV → Prop) : loadT σ ag n (.ref l off) (.mk : Tg K) = loadO (σ[l]?) off ag n (.mk : Tg K) := _root_.id rfl
@[go_sem] theorem loadO_f (cs : List AV) (off n : Nat) (K : AV → Prop) : loadO (some (.cells cs)) off false n (.mk : Tg K) = req (off + n ≤ cs.length ∧ n = 1) (.mk : Tg (K (cs.getD off .undef))) := by
  rw [← and_req]; simp [loadO, and_assoc]
@[go_sem] theorem loadO_t (cs : List AV) (off n : Nat) (K : AV → Prop) : loadO (some (.cells cs)) off true n (.mk : Tg K) = req (off + n ≤ cs.length) (.mk : Tg (K (.agg ((cs.drop off).take n)))) := by
  rw [← and_req]; simp [loadO]
def storeO (σ : Store) (l : Nat) (o : Option AObj) (off n : Nat) (v : AV) {K : Store → Prop} (_ : Tg K) : Prop := v.cells.length = n ∧ v.cells.all AV.scalar = true ∧ match o with
  | some (.cellsT T cs) => off + n ≤ cs.length ∧ K (σ.set l (.cellsT T (setMany cs off v.cells)))
  | _ => False
@[go_sem] theorem storeT_ref (n l off : Nat) (v : AV) (K : Store → Prop) : storeT σ n (.ref l off) v (.mk : Tg K) = storeO σ l (σ[l]?) off n v (.mk : Tg K) := _root_.id rfl
@[go_sem] theorem storeO_c (l : Nat) (cs : List AV) (off n : Nat) (v : AV) (K : Store → Prop) : storeO σ l (some (.cells cs)) off n v (.mk : Tg K) = req (v.cells.length = n ∧ v.cells.all AV.scalar = true ∧ off + n ≤ cs.length) (.mk : Tg (K (σ.set l (.cells (setMany cs off v.cells))))) := by
  rw [← and_req]; simp [storeO, and_assoc]
def opT (P : Program) (o : AOp) (σ : Store) {K Kp : AV → Store → Prop} (_ : Tg (K, Kp)) : Prop := o.run P (fun _ => .undef) σ K Kp
@[go_sem ↓] theorem run_faddr (off : Nat) (x : AX) : AOp.run P (.faddr off x) e σ K Kp = opT P (.faddr off (.c (x.ev e))) σ (.mk : Tg (K, Kp)) := _root_.id rfl
@[go_sem ↓] theorem run_nilck (x : AX) : AOp.run P (.nilck x) e σ K Kp = opT P (.nilck (.c (x.ev e))) σ (.mk : Tg (K, Kp)) := _root_.id rfl
@[go_sem ↓] theorem run_iaddr (el : El) (arr : Option Nat) (x i : AX) : AOp.run P (.iaddr el arr x i) e σ K Kp = opT P (.iaddr el arr (.c (x.ev e)) (.c (i.ev e))) σ (.mk : Tg (K, Kp)) := _root_.id rfl
@[go_sem ↓] theorem run_idxS (x i : AX) : AOp.run P (.idxS x i) e σ K Kp = opT P (.idxS (.c (x.ev e)) (.c (i.ev e))) σ (.mk : Tg (K, Kp)) := _root_.id rfl
@[go_sem ↓] theorem run_cint (k : IntKind) (x : AX) : AOp.run P (.cint k x) e σ K Kp = opT P (.cint k (.c (x.ev e))) σ (.mk : Tg (K, Kp)) := _root_.id rfl
@[go_sem ↓] theorem run_eqf (ng ag : Bool) (ks : List Kd) (x i : AX) : AOp.run P (.eqf ng ag ks x i) e σ K Kp = opT P (.eqf ng ag ks (.c (x.ev e)) (.c (i.ev e))) σ (.mk : Tg (K, Kp)) := _root_.id rfl
@[go_sem ↓] theorem run_eqnil (ng : Bool) (k : NK) (x i : AX) : AOp.run P (.eqnil ng k x i) e σ K Kp = opT P (.eqnil ng k (.c (x.ev e)) (.c (i.ev e))) σ (.mk : Tg (K, Kp)) := _root_.id rfl
variable (k k' : IntKind) (a b : Int) (s t : List UInt8) (el : El) (xs cs : List AV) (l m lo n off i : Nat) (f : Bool)
@[go_sem] theorem op_faddr_ref : opT P (.faddr off (.c (.ref l i))) σ (.mk : Tg (K, Kp)) = K (.ref l (i + off)) σ := _root_.id rfl
@[go_sem] theorem op_faddr_eref (x : AV) : opT P (.faddr off (.c (.eref el x i))) σ (.mk : Tg (K, Kp)) = K (.eref el x (i + off)) σ := _root_.id rfl
@[go_sem] theorem op_nilck_ref : opT P (.nilck (.c (.ref l i))) σ (.mk : Tg (K, Kp)) = K (.ref l i) σ := _root_.id rfl
@[go_sem] theorem op_iaddr_lst : opT P (.iaddr el none (.c (.lst f el xs)) (.c (.int k a))) σ (.mk : Tg (K, Kp)) = req (0 ≤ a ∧ a < xs.length) (.mk : Tg (K (.eref el (xs.getD a.toNat .undef) 0) σ)) := by
  rw [← and_req]; simp [opT, AOp.run, AX.ev, and_assoc]
@[go_sem] theorem op_idxS : opT P (.idxS (.c (.str s)) (.c (.int k a))) σ (.mk : Tg (K, Kp)) = req (0 ≤ a ∧ a < s.length) (.mk : Tg (K (.int .u8 (s.getD a.toNat 0).toNat) σ)) := by
  rw [← and_req]; simp [opT, AOp.run, AX.ev, and_assoc]
@[go_sem] theorem op_cint : opT P (.cint k (.c (.int k' a))) σ (.mk : Tg (K, Kp)) = K (.int k (wrapK k a)) σ := _root_.id rfl
theorem toNat_le {a : Int} {n : Nat} (h : 0 ≤ a) : (a ≤ ((n : Nat) : Int)) = (a.toNat ≤ n) := by simp only [eq_iff_iff]; omega
def callL (P : Program) (n : FuncId) (args : List AV) (σ : Store) {K Kp : AV → Store → Prop} (_ : Tg (K, Kp)) : Prop := CallA P n args σ (outK K Kp)
def callD (P : Program) (n : FuncId) (args : List AV) (σ : Store) {K Kp : AV → Store → Prop} (_ : Tg (K, Kp)) : Prop := ∃ r, (∀ τ, CallQ P n args (σ ++ τ) r) ∧ K r σ
@[go_sem] theorem callT_f (n : FuncId) (first args cap : List AV) : callT P false (.fn (.func n) first cap) args σ (.mk : Tg (K, Kp)) = callL P n (first ++ args ++ cap) σ (.mk : Tg (K, Kp)) := by
  simp [callT, callL]
theorem callL_i {n : FuncId} {args : List AV} {σ : Store} {K Kp : AV → Store → Prop} {r : AV} (h : ∀ σ, CallQ P n args σ r) (hk : bindV r (.mk : Tg fun r => K r σ)) : callL P n args σ (.mk : Tg (K, Kp)) :=
  (h σ).mono fun o s ⟨h1, h2⟩ => by subst h1; subst h2; exact hk
theorem callD_i {n : FuncId} {args : List AV} {σ : Store} {K Kp : AV → Store → Prop} {r : AV} (h : ∀ σ, CallQ P n args σ r) (hk : bindV r (.mk : Tg fun r => K r σ)) : callD P n args σ (.mk : Tg (K, Kp)) := ⟨r, fun τ => h _, hk⟩
def buildV : List AV → List (Nat × Nat × AV) → (List AV → Prop) → Prop
  | z, [], K => K z
  | z, (off, n, v) :: r, K => v.cells.length = n ∧ v.cells.all AV.scalar = true ∧ off + n ≤ z.length ∧ buildV (setMany z off v.cells) r K
def buildT (z : List AV) (ps : List (Nat × Nat × AV)) {K : List AV → Prop} (_ : Tg K) : Prop := buildV z ps K
theorem buildV_of (e : Env) (K : List AV → Prop) : ∀ (ps : List (Nat × Nat × AX)) (z : List AV), buildA z e ps K = buildV z (ps.map fun p => (p.1, p.2.1, p.2.2.ev e)) K
  | [], z => rfl
  | (off, n, x) :: r, z => by simp only [buildA, buildV, List.map_cons, buildV_of e K r]
@[go_sem ↓] theorem run_build (z : List AV) (ps : List (Nat × Nat × AX)) : AOp.run P (.build z ps) e σ K Kp = buildT z (ps.map fun p => (p.1, p.2.1, p.2.2.ev e)) (.mk : Tg fun cs => K (.agg cs) σ) := buildV_of e _ ps z
@[go_sem] theorem buildT_nil (z : List AV) (K : List AV → Prop) : buildT z [] (.mk : Tg K) = K z := _root_.id rfl
def bsliceV (el : El) : List AV → List (Nat × AV) → (List AV → Prop) → Prop
  | z, [], K => K z
  | z, (i, v) :: r, K => v.fits el = true ∧ i < z.length ∧ bsliceV el (z.set i v) r K
def bsliceT (el : El) (z : List AV) (ps : List (Nat × AV)) {K : List AV → Prop} (_ : Tg K) : Prop := bsliceV el z ps K
theorem bsliceV_of (el : El) (e : Env) (K : List AV → Prop) : ∀ (ps : List (Nat × AX)) (z : List AV), bsliceA el z e ps K = bsliceV el z (ps.map fun p => (p.1, p.2.ev e)) K
  | [], z => rfl
  | (i, x) :: r, z => by simp only [bsliceA, bsliceV, List.map_cons, bsliceV_of el e K r]
@[go_sem ↓] theorem run_bslice_f (el : El) (z : AV) (n : Nat) (ps : List (Nat × AX)) : AOp.run P (.bslice false el z n ps) e σ K Kp = bsliceT el (List.replicate n z) (ps.map fun p => (p.1, p.2.ev e)) (.mk : Tg fun xs => K (.lst true el xs) σ) := bsliceV_of el e _ ps _
@[go_sem] theorem bsliceT_nil (z : List AV) (K : List AV → Prop) : bsliceT el z [] (.mk : Tg K) = K z := _root_.id rfl
@[go_sem] theorem bsliceT_cons (z : List AV) (i : Nat) (v : AV) (r : List (Nat × AV)) (K : List AV → Prop) : bsliceT el z ((i, v) :: r) (.mk : Tg K) = req (v.fits el = true ∧ i < z.length) (.mk : Tg (bsliceT el (z.set i v) r (.mk : Tg K))) := by
  rw [← and_req]; simp only [bsliceT, bsliceV, and_assoc]
def partT (c : Bool) (el : El) (x : AV) (off : Nat) (ag : Bool) (n : Nat) {K : AV → Prop} (_ : Tg K) : Prop := c = (off == 0 && n == el.sz && ag == el.ag) ∧ partOf el x off ag n K
@[go_sem] theorem loadT_eref (ag : Bool) (n : Nat) (el : El) (x : AV) (off : Nat) (K : AV → Prop) : loadT σ ag n (.eref el x off) (.mk : Tg K) = partT (off == 0 && n == el.sz && ag == el.ag) el x off ag n (.mk : Tg K) := by
  simp only [partT, true_and]; rfl
@[go_sem] theorem partT_t (ag : Bool) (n : Nat) (x : AV) (K : AV → Prop) : partT true ⟨ag, n⟩ x 0 ag n (.mk : Tg K) = K x := by
  simp [partT, partOf]
@[go_sem] theorem partT_f (el : El) (off n : Nat) (cs : List AV) (K : AV → Prop) (h : (off == 0 && n == el.sz && false == el.ag) = false) : partT false el (.agg cs) off false n (.mk : Tg K) = req (off + n ≤ el.sz ∧ n = 1) (.mk : Tg (K (cs.getD off .undef))) := by
  have hn : ¬ (off = 0 ∧ n = el.sz ∧ false = el.ag) := by rintro ⟨h1, h2, h3⟩; subst h1; subst h2; rw [← h3] at h; simp at h
  rw [← and_req]; simp only [partT, partOf, if_neg hn, h, true_and]
  simp only [Bool.false_eq_true, if_false, forall_const, eq_iff_iff]
  exact ⟨fun ⟨h1, h2, h3⟩ => ⟨⟨h1, h3⟩, h2⟩, fun ⟨⟨h1, h3⟩, h2⟩ => ⟨h1, h2, h3⟩⟩
theorem op_eqnil (ng : Bool) (k : NK) (x y : AV) : opT P (.eqnil ng k (.c x) (.c y)) σ (.mk : Tg (K, Kp)) = (match nilEq k x y with | some b => K (.bool (if ng then !b else b)) σ | none => False) := rfl
theorem op_eqf_t (ng : Bool) (ks : List Kd) (xs ys : List AV) : opT P (.eqf ng true ks (.c (.agg xs)) (.c (.agg ys))) σ (.mk : Tg (K, Kp)) = (match kdsEq ks xs ys with | some b => K (.bool (if ng then !b else b)) σ | none => False) := rfl
end
end Go.AM
namespace Go.AM
variable {P : Program}
def ovl (ms : List Nat) (r e : Env) : Env := fun t => if ms.contains t then r t else e t
def puts : List (Nat × AV) → Env → Env
  | [], e => e
  | (d, v) :: l, e => upd (puts l e) (some d) v
@[go_sem ↓] theorem puts_nil (e : Env) : puts [] e = e := _root_.id rfl
@[go_sem ↓] theorem puts_cons (d : Nat) (v : AV) (l : List (Nat × AV)) (e : Env) : puts ((d, v) :: l) e = upd (puts l e) (some d) v := _root_.id rfl
@[go_sem ↓] theorem ovl_app (ms : List Nat) (r e : Env) (t : Nat) : ovl ms r e t = pickT (ms.contains t) (.mk : Tg (r t, e t)) := _root_.id rfl
def Out? (ms : List Nat) (e e' : Env) : Prop := ∀ t, ms.contains t = false → e' t = e t
theorem out_ovl (ms : List Nat) (r e : Env) : Out? ms e (ovl ms r e) := fun t h => by simp only [ovl, h]; rfl
theorem out_upd {ms : List Nat} {e e' : Env} {d : Nat} {v : AV} (hd : ms.contains d = true) (h : Out? ms e e') : Out? ms e (upd e' (some d) v) := fun t ht => by
  simp only [upd]
  split
  · rename_i e1; subst e1; rw [hd] at ht; cases ht
  · exact h t ht
def At (l : List (Nat × AV)) (e : Env) : Prop := ∀ p ∈ l, e p.1 = p.2
@[go_sem] theorem at_nil (e : Env) : At [] e = True := by simp [At]
@[go_sem] theorem at_cons (d : Nat) (v : AV) (l : List (Nat × AV)) (e : Env) : At ((d, v) :: l) e = (e d = v ∧ At l e) := by simp [At]
theorem puts_of {ms : List Nat} {e e' : Env} (ho : Out? ms e e') : ∀ (l : List (Nat × AV)), At l e' → puts l (ovl ms e' e) = e'
  | [], _ => by
    funext t
    simp only [puts, ovl]
    split
    · rfl
    · rename_i h; exact (ho t (by simpa using h)).symm
  | (d, v) :: l, h => by
    simp only [puts]
    rw [puts_of ho l (fun p hp => h p (List.mem_cons_of_mem _ hp))]
    exact upd_same (h (d, v) (by simp))
theorem runOps_mono {Q Q' : AQ} (h : ∀ ex e σ, Q ex e σ → Q' ex e σ) : ∀ (l : List GOp) (e : Env) (σ : Store), runOps P Q l e σ → runOps P Q' l e σ
  | [], e, σ, hh => h _ _ _ hh
  | ⟨o, d, none⟩ :: r, e, σ, hh => run_mono (fun v s => runOps_mono h r _ _) (fun v s => h _ _ _) hh
  | ⟨o, d, some (k, b)⟩ :: r, e, σ, hh => by
    simp only [runOps] at hh ⊢
    split at hh
    · exact ⟨fun ht => run_mono (fun v s => runOps_mono h r _ _) (fun v s => h _ _ _) (hh.1 ht), fun ht => runOps_mono h r _ _ (hh.2 ht)⟩
    · exact runOps_mono h r _ _ hh
    · exact hh
theorem thenQ_mono {K K' : Env → Store → Prop} {Q Q' : AQ} (hk : ∀ e σ, K e σ → K' e σ) (h : ∀ ex e σ, Q ex e σ → Q' ex e σ) : ∀ ex e σ, thenQ K Q ex e σ → thenQ K' Q' ex e σ
  | .normal, _, _ => hk _ _
  | .exit _, _, _ => h _ _ _
  | .goto _, _, _ => h _ _ _
  | .ret, _, _ => h _ _ _
  | .panic _, _, _ => h _ _ _
theorem RngA_mono {nt : Nat} {ps : List Nat} {ca cb : Code} {f : AV} {a b : AQ → Env → Store → Prop} {Q Q' : AQ} (h : ∀ ex e σ, Q ex e σ → Q' ex e σ) (e : Env) (σ : Store) : RngA P nt ps ca cb f a b Q e σ → RngA P nt ps ca cb f a b Q' e σ := by
  unfold RngA
  split
  · refine fun hh o ho hy => (hh o ho hy).mono fun out s hq => ?_
    cases out with
    | ret r =>
      obtain ⟨st, pe, h1, h2, h3⟩ := hq
      refine ⟨st, pe, h1, h2, ?_⟩
      split at h3 <;> first | exact h _ _ _ h3 | exact h3
    | panic v => exact h _ _ _ hq
  · exact id
theorem condQ_mono {prs : List (AX × AX)} {Q Q' : AQ} (h : ∀ ex e σ, Q ex e σ → Q' ex e σ) : ∀ ex e σ, condQ prs Q ex e σ → condQ prs Q' ex e σ := fun ex e σ hq => by
  cases ex with
  | normal => exact ⟨hq.1, h _ _ _ hq.2⟩
  | panic v =>
    simp only [condQ] at hq ⊢
    split at hq
    · rename_i hf; rw [if_pos hf]; exact fun e' => h _ _ _ (hq e')
    · rename_i hf; rw [if_neg hf]; exact h _ _ _ hq
  | _ => exact h _ _ _ hq
theorem wpA_mono {c : ACode} : ∀ {Q Q' : AQ}, (∀ ex e σ, Q ex e σ → Q' ex e σ) → ∀ (e : Env) (σ : Store), wpA P c Q e σ → wpA P c Q' e σ := by
  induction c with
  | skip => exact fun h e σ => h _ _ _
  | region ops => exact fun h e σ => runOps_mono h ops e σ
  | draw ops prs => exact fun h e σ => runOps_mono (condQ_mono h) ops e σ
  | seq a b iha ihb => exact fun h e σ => iha (thenQ_mono (fun e σ => ihb h e σ) h) e σ
  | cond c a b iha ihb =>
    intro Q Q' h e σ hh
    simp only [wpA] at hh ⊢
    split at hh
    · exact ⟨fun ht => iha h _ _ (hh.1 ht), fun ht => ihb h _ _ (hh.2 ht)⟩
    · exact hh
  | block id c ih =>
    intro Q Q' h e σ
    refine ih (fun ex e σ hq => ?_) e σ
    cases ex <;> try exact h _ _ _ hq
    simp only [blockQ] at hq ⊢
    split at hq
    · rename_i e1; rw [if_pos e1]; exact h _ _ _ hq
    · rename_i e1; rw [if_neg e1]; exact h _ _ _ hq
  | loop c ih =>
    rintro Q Q' h e σ ⟨I, hI, hr⟩
    exact ⟨I, hI, fun n e σ hi => ih (thenQ_mono (fun _ _ h => h) h) _ _ (hr n e σ hi)⟩
  | exit id => exact fun h e σ => h _ _ _
  | ret => exact fun h e σ => h _ _ _
  | scope l c r ihc ihr =>
    rintro Q Q' h e σ ⟨J, h1, h2⟩
    have hj : ∀ (J : Env → Store → Prop) ex e σ, jumpQ l J Q ex e σ → jumpQ l J Q' ex e σ := fun J ex e σ hq => by
      cases ex <;> first | exact h _ _ _ hq | exact hq
    exact ⟨J, ihc (hj _) _ _ h1, fun n e σ hi => ihr (hj _) _ _ (h2 n e σ hi)⟩
  | stop => exact fun h e σ hh => hh
  | rng f nt ps ca cb a b _ _ => exact fun h e σ => RngA_mono h e σ
  | label l => exact fun h e σ => h _ _ _
  | goto l => exact fun h e σ => h _ _ _
def RoundA {α : Type} (ms : List Nat) (cs : α → List (Nat × AV)) (S : α → Store) (A : α → Prop) (μ : α → Nat) (e : Env) (x : α) (e' : Env) (σ' : Store) : Prop :=
  ∃ x', A x' ∧ μ x' < μ x ∧ σ' = S x' ∧ Out? ms e e' ∧ At (cs x') e'
theorem loop_i {c : ACode} {Q : AQ} {e : Env} {σ : Store} {α : Type} (ms : List Nat) (cs : α → List (Nat × AV)) (S : α → Store) (A : α → Prop) (μ : α → Nat) (x0 : α) (h0 : A x0) (hσ : σ = S x0) (hat : At (cs x0) e)
    (hr : ∀ x r, A x → wpA P c (thenQ (RoundA ms cs S A μ e x) Q) (puts (cs x) (ovl ms r e)) (S x)) : loopK P (.mk : Tg (c, Q, e, σ)) := by
  refine ⟨fun n e' σ' => ∃ x, A x ∧ Out? ms e e' ∧ At (cs x) e' ∧ σ' = S x ∧ μ x = n, ⟨_, x0, h0, fun _ _ => rfl, hat, hσ, rfl⟩, ?_⟩
  rintro n e' σ' ⟨x1, a1, o1, t1, rfl, rfl⟩
  have h := hr x1 e' a1
  rw [puts_of o1 _ t1] at h
  refine wpA_mono (fun ex e2 σ2 hq => ?_) _ _ h
  cases ex <;> try exact hq
  obtain ⟨x', a', hm, hs, ho, ht⟩ := hq
  exact ⟨_, hm, x', a', ho, ht, hs, rfl⟩
end Go.AM
