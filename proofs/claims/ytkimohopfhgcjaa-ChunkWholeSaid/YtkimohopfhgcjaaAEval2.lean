/- Abstract code, evaluated by rewriting: memory, slices, calls. -/
import Derived.Test.YtkimohopfhgcjaaAEval
namespace Go.AM
set_option linter.unusedSimpArgs false
set_option linter.unusedVariables false
set_option linter.unnecessarySimpa false
variable {P : Program}
section
variable (e : Env) (σ : Store) (K Kp : AV → Store → Prop)

/-! ### Cells -/
def loadO (o : Option AObj) (off : Nat) (ag : Bool) (n : Nat) {K : AV → Prop} (_ : Tg K) : Prop := match o with
  | some (.cellsT _ cs) => off + n ≤ cs.length ∧ (ag = false → n = 1) ∧ K (if ag then .agg ((cs.drop off).take n) else cs.getD off .undef)
  | _ => False
@[go_sem] theorem loadT_ref (ag : Bool) (n l off : Nat) (K : AV → Prop) : loadT σ ag n (.ref l off) (.mk : Tg K) = loadO (σ[l]?) off ag n (.mk : Tg K) := _root_.id rfl
@[go_sem] theorem loadO_f (cs : List AV) (off n : Nat) (K : AV → Prop) : loadO (some (.cells cs)) off false n (.mk : Tg K) = req (off + n ≤ cs.length ∧ n = 1) (.mk : Tg (K (cs.getD off .undef))) := by
  rw [← and_req]; simp [loadO, and_assoc]
@[go_sem] theorem loadO_t (cs : List AV) (off n : Nat) (K : AV → Prop) : loadO (some (.cells cs)) off true n (.mk : Tg K) = req (off + n ≤ cs.length) (.mk : Tg (K (.agg ((cs.drop off).take n)))) := by
  rw [← and_req]; simp [loadO]
@[go_sem] theorem loadO_fT (T : TypeId) (cs : List AV) (off n : Nat) (K : AV → Prop) : loadO (some (.cellsT (some T) cs)) off false n (.mk : Tg K) = req (off + n ≤ cs.length ∧ n = 1) (.mk : Tg (K (cs.getD off .undef))) := by
  rw [← and_req]; simp [loadO, and_assoc]
@[go_sem] theorem loadO_tT (T : TypeId) (cs : List AV) (off n : Nat) (K : AV → Prop) : loadO (some (.cellsT (some T) cs)) off true n (.mk : Tg K) = req (off + n ≤ cs.length) (.mk : Tg (K (.agg ((cs.drop off).take n)))) := by
  rw [← and_req]; simp [loadO]
def storeO (σ : Store) (l : Nat) (o : Option AObj) (off n : Nat) (v : AV) {K : Store → Prop} (_ : Tg K) : Prop := v.cells.length = n ∧ v.cells.all AV.scalar = true ∧ match o with
  | some (.cellsT T cs) => off + n ≤ cs.length ∧ K (σ.set l (.cellsT T (setMany cs off v.cells)))
  | _ => False
@[go_sem] theorem storeT_ref (n l off : Nat) (v : AV) (K : Store → Prop) : storeT σ n (.ref l off) v (.mk : Tg K) = storeO σ l (σ[l]?) off n v (.mk : Tg K) := _root_.id rfl
@[go_sem] theorem storeO_c (l : Nat) (cs : List AV) (off n : Nat) (v : AV) (K : Store → Prop) : storeO σ l (some (.cells cs)) off n v (.mk : Tg K) = req (v.cells.length = n ∧ v.cells.all AV.scalar = true ∧ off + n ≤ cs.length) (.mk : Tg (K (σ.set l (.cells (setMany cs off v.cells))))) := by
  rw [← and_req]; simp [storeO, and_assoc]
@[go_sem] theorem storeO_cT (l : Nat) (T : TypeId) (cs : List AV) (off n : Nat) (v : AV) (K : Store → Prop) : storeO σ l (some (.cellsT (some T) cs)) off n v (.mk : Tg K) = req (v.cells.length = n ∧ v.cells.all AV.scalar = true ∧ off + n ≤ cs.length) (.mk : Tg (K (σ.set l (.cellsT (some T) (setMany cs off v.cells))))) := by
  rw [← and_req]; simp [storeO, and_assoc]
/-- An operation on values that are at hand (its operands are constants): what follows is held. -/
def opT (P : Program) (o : AOp) (σ : Store) {K Kp : AV → Store → Prop} (_ : Tg (K, Kp)) : Prop := o.run P (fun _ => .undef) σ K Kp
@[go_sem ↓] theorem run_faddr (off : Nat) (x : AX) : AOp.run P (.faddr off x) e σ K Kp = opT P (.faddr off (.c (x.ev e))) σ (.mk : Tg (K, Kp)) := _root_.id rfl
@[go_sem ↓] theorem run_nilck (x : AX) : AOp.run P (.nilck x) e σ K Kp = opT P (.nilck (.c (x.ev e))) σ (.mk : Tg (K, Kp)) := _root_.id rfl
@[go_sem ↓] theorem run_field (ag : Bool) (off n : Nat) (x : AX) : AOp.run P (.field ag off n x) e σ K Kp = opT P (.field ag off n (.c (x.ev e))) σ (.mk : Tg (K, Kp)) := _root_.id rfl
@[go_sem ↓] theorem run_iaddr (el : El) (arr : Option Nat) (x i : AX) : AOp.run P (.iaddr el arr x i) e σ K Kp = opT P (.iaddr el arr (.c (x.ev e)) (.c (i.ev e))) σ (.mk : Tg (K, Kp)) := _root_.id rfl
@[go_sem ↓] theorem run_idxS (x i : AX) : AOp.run P (.idxS x i) e σ K Kp = opT P (.idxS (.c (x.ev e)) (.c (i.ev e))) σ (.mk : Tg (K, Kp)) := _root_.id rfl
@[go_sem ↓] theorem run_idxA (el : El) (n : Nat) (x i : AX) : AOp.run P (.idxA el n x i) e σ K Kp = opT P (.idxA el n (.c (x.ev e)) (.c (i.ev e))) σ (.mk : Tg (K, Kp)) := _root_.id rfl
@[go_sem ↓] theorem run_cint (k : IntKind) (x : AX) : AOp.run P (.cint k x) e σ K Kp = opT P (.cint k (.c (x.ev e))) σ (.mk : Tg (K, Kp)) := _root_.id rfl
@[go_sem ↓] theorem run_cid (x : AX) : AOp.run P (.cid x) e σ K Kp = opT P (.cid (.c (x.ev e))) σ (.mk : Tg (K, Kp)) := _root_.id rfl
@[go_sem ↓] theorem run_s2b (x : AX) : AOp.run P (.s2b x) e σ K Kp = opT P (.s2b (.c (x.ev e))) σ (.mk : Tg (K, Kp)) := _root_.id rfl
@[go_sem ↓] theorem run_b2s (x : AX) : AOp.run P (.b2s x) e σ K Kp = opT P (.b2s (.c (x.ev e))) σ (.mk : Tg (K, Kp)) := _root_.id rfl
@[go_sem ↓] theorem run_mkslice (el : El) (z : AV) (x i : AX) : AOp.run P (.mkslice el z x i) e σ K Kp = opT P (.mkslice el z (.c (x.ev e)) (.c (i.ev e))) σ (.mk : Tg (K, Kp)) := _root_.id rfl
@[go_sem ↓] theorem run_panic (x : AX) : AOp.run P (.panic x) e σ K Kp = opT P (.panic (.c (x.ev e))) σ (.mk : Tg (K, Kp)) := _root_.id rfl
@[go_sem ↓] theorem run_app (T : Option TypeId) (el : El) (x i : AX) : AOp.run P (.app T el x i) e σ K Kp = opT P (.app T el (.c (x.ev e)) (.c (i.ev e))) σ (.mk : Tg (K, Kp)) := _root_.id rfl
@[go_sem ↓] theorem run_eqf (ng ag : Bool) (ks : List Kd) (x i : AX) : AOp.run P (.eqf ng ag ks x i) e σ K Kp = opT P (.eqf ng ag ks (.c (x.ev e)) (.c (i.ev e))) σ (.mk : Tg (K, Kp)) := _root_.id rfl
@[go_sem ↓] theorem run_eqnil (ng : Bool) (k : NK) (x i : AX) : AOp.run P (.eqnil ng k x i) e σ K Kp = opT P (.eqnil ng k (.c (x.ev e)) (.c (i.ev e))) σ (.mk : Tg (K, Kp)) := _root_.id rfl
@[go_sem ↓] theorem run_usd (el : El) (x : AX) : AOp.run P (.usd el x) e σ K Kp = opT P (.usd el (.c (x.ev e))) σ (.mk : Tg (K, Kp)) := _root_.id rfl
@[go_sem ↓] theorem run_ustr (T : TypeId) (x i : AX) : AOp.run P (.ustr T x i) e σ K Kp = opT P (.ustr T (.c (x.ev e)) (.c (i.ev e))) σ (.mk : Tg (K, Kp)) := _root_.id rfl
@[go_sem ↓] theorem run_p2u (x : AX) : AOp.run P (.p2u x) e σ K Kp = opT P (.p2u (.c (x.ev e))) σ (.mk : Tg (K, Kp)) := _root_.id rfl
@[go_sem ↓] theorem run_u2p (u : TypeId) (x : AX) : AOp.run P (.u2p u x) e σ K Kp = opT P (.u2p u (.c (x.ev e))) σ (.mk : Tg (K, Kp)) := _root_.id rfl
@[go_sem ↓] theorem run_eqp (ng : Bool) (x i : AX) : AOp.run P (.eqp ng x i) e σ K Kp = opT P (.eqp ng (.c (x.ev e)) (.c (i.ev e))) σ (.mk : Tg (K, Kp)) := _root_.id rfl
def cO (e : Env) : Option AX → Option AX
  | none => none
  | some x => some (.c (x.ev e))
@[go_sem] theorem cO_none : cO e none = none := _root_.id rfl
@[go_sem] theorem cO_some (x : AX) : cO e (some x) = some (.c (x.ev e)) := _root_.id rfl
@[go_sem ↓] theorem run_slS (x : AX) (lo hi : Option AX) : AOp.run P (.slS x lo hi) e σ K Kp = opT P (.slS (.c (x.ev e)) (cO e lo) (cO e hi)) σ (.mk : Tg (K, Kp)) := by
  cases lo <;> cases hi <;> rfl
@[go_sem ↓] theorem run_slL (el : El) (x : AX) (lo hi : Option AX) : AOp.run P (.slL el x lo hi) e σ K Kp = opT P (.slL el (.c (x.ev e)) (cO e lo) (cO e hi)) σ (.mk : Tg (K, Kp)) := by
  cases lo <;> cases hi <;> rfl

variable (k k' : IntKind) (a b : Int) (s t : List UInt8) (el : El) (xs cs : List AV) (l m lo n off i : Nat) (f : Bool)
@[go_sem] theorem op_faddr_ref : opT P (.faddr off (.c (.ref l i))) σ (.mk : Tg (K, Kp)) = K (.ref l (i + off)) σ := _root_.id rfl
@[go_sem] theorem op_faddr_eref (x : AV) : opT P (.faddr off (.c (.eref el x i))) σ (.mk : Tg (K, Kp)) = K (.eref el x (i + off)) σ := _root_.id rfl
@[go_sem] theorem op_faddr_vref (j : Nat) : opT P (.faddr off (.c (.vref el l m j i))) σ (.mk : Tg (K, Kp)) = K (.vref el l m j (i + off)) σ := _root_.id rfl
@[go_sem] theorem op_nilck_ref : opT P (.nilck (.c (.ref l i))) σ (.mk : Tg (K, Kp)) = K (.ref l i) σ := _root_.id rfl
@[go_sem] theorem op_nilck_yld : opT P (.nilck (.c (.yld l))) σ (.mk : Tg (K, Kp)) = K (.yld l) σ := _root_.id rfl
@[go_sem] theorem op_nilck_fn (g : FuncId) (xs ys : List AV) : opT P (.nilck (.c (.fn (.func g) xs ys))) σ (.mk : Tg (K, Kp)) = K (.fn (.func g) xs ys) σ := _root_.id rfl
@[go_sem] theorem op_field_f : opT P (.field false off n (.c (.agg cs))) σ (.mk : Tg (K, Kp)) = req (off + n ≤ cs.length ∧ n = 1) (.mk : Tg (K (cs.getD off .undef) σ)) := by
  rw [← and_req]; simp [opT, AOp.run, AX.ev, and_assoc]
@[go_sem] theorem op_field_t : opT P (.field true off n (.c (.agg cs))) σ (.mk : Tg (K, Kp)) = req (off + n ≤ cs.length) (.mk : Tg (K (.agg ((cs.drop off).take n)) σ)) := by
  rw [← and_req]; simp [opT, AOp.run, AX.ev]
@[go_sem] theorem op_iaddr_lst : opT P (.iaddr el none (.c (.lst f el xs)) (.c (.int k a))) σ (.mk : Tg (K, Kp)) = req (0 ≤ a ∧ a < xs.length) (.mk : Tg (K (.eref el (xs.getD a.toNat .undef) 0) σ)) := by
  rw [← and_req]; simp [opT, AOp.run, AX.ev, and_assoc]
@[go_sem] theorem op_idxS : opT P (.idxS (.c (.str s)) (.c (.int k a))) σ (.mk : Tg (K, Kp)) = req (0 ≤ a ∧ a < s.length) (.mk : Tg (K (.int .u8 (s.getD a.toNat 0).toNat) σ)) := by
  rw [← and_req]; simp [opT, AOp.run, AX.ev, and_assoc]
@[go_sem] theorem op_cint : opT P (.cint k (.c (.int k' a))) σ (.mk : Tg (K, Kp)) = K (.int k (wrapK k a)) σ := _root_.id rfl
@[go_sem] theorem op_cid : opT P (.cid (.c (.str s))) σ (.mk : Tg (K, Kp)) = K (.str s) σ := _root_.id rfl

theorem toNat_le {a : Int} {n : Nat} (h : 0 ≤ a) : (a ≤ ((n : Nat) : Int)) = (a.toNat ≤ n) := by simp only [eq_iff_iff]; omega
@[go_sem] theorem op_slS_ll : opT P (.slS (.c (.str s)) (some (.c (.int k a))) (some (.c (.int k' b)))) σ (.mk : Tg (K, Kp)) = req ((0 ≤ b ∧ b ≤ s.length) ∧ 0 ≤ a ∧ a ≤ b) (.mk : Tg (K (.str ((s.drop a.toNat).take (b.toNat - a.toNat))) σ)) := by
  rw [← and_req]; simp only [opT, AOp.run, AX.ev, bound, Option.map, and_assoc, eq_iff_iff]
  constructor
  · rintro ⟨h1, h2, h3, h4, h5⟩; exact ⟨h1, h2, h3, by omega, h5⟩
  · rintro ⟨h1, h2, h3, h4, h5⟩; exact ⟨h1, h2, h3, by omega, h5⟩
@[go_sem] theorem op_slS_nl : opT P (.slS (.c (.str s)) none (some (.c (.int k' b)))) σ (.mk : Tg (K, Kp)) = req (0 ≤ b ∧ b ≤ s.length) (.mk : Tg (K (.str (s.take b.toNat)) σ)) := by
  rw [← and_req]; simp only [opT, AOp.run, AX.ev, bound, Option.map, and_assoc, List.drop_zero, Nat.sub_zero]
@[go_sem] theorem op_slS_ln : opT P (.slS (.c (.str s)) (some (.c (.int k a))) none) σ (.mk : Tg (K, Kp)) = req (0 ≤ a ∧ a ≤ s.length) (.mk : Tg (K (.str (s.drop a.toNat)) σ)) := by
  rw [← and_req]; simp only [opT, AOp.run, AX.ev, bound, Option.map, and_assoc]
  have : (s.drop a.toNat).take (s.length - a.toNat) = s.drop a.toNat := List.take_of_length_le (by simp)
  rw [this]
/-! ### Calls -/
def callL (P : Program) (n : FuncId) (args : List AV) (σ : Store) {K Kp : AV → Store → Prop} (_ : Tg (K, Kp)) : Prop := CallA P n args σ (outK K Kp)
def callD (P : Program) (n : FuncId) (args : List AV) (σ : Store) {K Kp : AV → Store → Prop} (_ : Tg (K, Kp)) : Prop := ∃ r, (∀ τ, CallQ P n args (σ ++ τ) r) ∧ K r σ
@[go_sem] theorem callT_f (n : FuncId) (first args cap : List AV) : callT P false (.fn (.func n) first cap) args σ (.mk : Tg (K, Kp)) = callL P n (first ++ args ++ cap) σ (.mk : Tg (K, Kp)) := by
  simp [callT, callL]
@[go_sem] theorem callT_t (n : FuncId) (first args cap : List AV) : callT P true (.fn (.func n) first cap) args σ (.mk : Tg (K, Kp)) = callD P n (first ++ args ++ cap) σ (.mk : Tg (K, Kp)) := by
  simp [callT, callD]
theorem callL_i {n : FuncId} {args : List AV} {σ : Store} {K Kp : AV → Store → Prop} {r : AV} (h : ∀ σ, CallQ P n args σ r) (hk : bindV r (.mk : Tg fun r => K r σ)) : callL P n args σ (.mk : Tg (K, Kp)) :=
  (h σ).mono fun o s ⟨h1, h2⟩ => by subst h1; subst h2; exact hk
theorem callD_i {n : FuncId} {args : List AV} {σ : Store} {K Kp : AV → Store → Prop} {r : AV} (h : ∀ σ, CallQ P n args σ r) (hk : bindV r (.mk : Tg fun r => K r σ)) : callD P n args σ (.mk : Tg (K, Kp)) := ⟨r, fun τ => h _, hk⟩
theorem callL_any {n : FuncId} {args : List AV} {σ : Store} {K Kp : AV → Store → Prop} {R : Out → Store → Prop} (h : CallA P n args σ R) (hk : ∀ o s, R o s → outK K Kp o s) : callL P n args σ (.mk : Tg (K, Kp)) := h.mono hk

/-! ### Structs and slices built -/
def buildV : List AV → List (Nat × Nat × AV) → (List AV → Prop) → Prop
  | z, [], K => K z
  | z, (off, n, v) :: r, K => v.cells.length = n ∧ v.cells.all AV.scalar = true ∧ off + n ≤ z.length ∧ buildV (setMany z off v.cells) r K
def buildT (z : List AV) (ps : List (Nat × Nat × AV)) {K : List AV → Prop} (_ : Tg K) : Prop := buildV z ps K
theorem buildV_of (e : Env) (K : List AV → Prop) : ∀ (ps : List (Nat × Nat × AX)) (z : List AV), buildA z e ps K = buildV z (ps.map fun p => (p.1, p.2.1, p.2.2.ev e)) K
  | [], z => rfl
  | (off, n, x) :: r, z => by simp only [buildA, buildV, List.map_cons, buildV_of e K r]
@[go_sem ↓] theorem run_build (z : List AV) (ps : List (Nat × Nat × AX)) : AOp.run P (.build z ps) e σ K Kp = buildT z (ps.map fun p => (p.1, p.2.1, p.2.2.ev e)) (.mk : Tg fun cs => K (.agg cs) σ) := buildV_of e _ ps z
@[go_sem] theorem buildT_nil (z : List AV) (K : List AV → Prop) : buildT z [] (.mk : Tg K) = K z := _root_.id rfl
@[go_sem] theorem buildT_cons (z : List AV) (off n : Nat) (v : AV) (r : List (Nat × Nat × AV)) (K : List AV → Prop) : buildT z ((off, n, v) :: r) (.mk : Tg K) = req (v.cells.length = n ∧ v.cells.all AV.scalar = true ∧ off + n ≤ z.length) (.mk : Tg (buildT (setMany z off v.cells) r (.mk : Tg K))) := by
  rw [← and_req]; simp only [buildT, buildV, and_assoc]
def bsliceV (el : El) : List AV → List (Nat × AV) → (List AV → Prop) → Prop
  | z, [], K => K z
  | z, (i, v) :: r, K => v.fits el = true ∧ i < z.length ∧ bsliceV el (z.set i v) r K
def bsliceT (el : El) (z : List AV) (ps : List (Nat × AV)) {K : List AV → Prop} (_ : Tg K) : Prop := bsliceV el z ps K
theorem bsliceV_of (el : El) (e : Env) (K : List AV → Prop) : ∀ (ps : List (Nat × AX)) (z : List AV), bsliceA el z e ps K = bsliceV el z (ps.map fun p => (p.1, p.2.ev e)) K
  | [], z => rfl
  | (i, x) :: r, z => by simp only [bsliceA, bsliceV, List.map_cons, bsliceV_of el e K r]
@[go_sem ↓] theorem run_bslice_f (el : El) (z : AV) (n : Nat) (ps : List (Nat × AX)) : AOp.run P (.bslice false el z n ps) e σ K Kp = bsliceT el (List.replicate n z) (ps.map fun p => (p.1, p.2.ev e)) (.mk : Tg fun xs => K (.lst true el xs) σ) := bsliceV_of el e _ ps _
@[go_sem ↓] theorem run_bslice_t (el : El) (z : AV) (n : Nat) (ps : List (Nat × AX)) : AOp.run P (.bslice true el z n ps) e σ K Kp = bsliceT el (List.replicate n z) (ps.map fun p => (p.1, p.2.ev e)) (.mk : Tg fun xs => K (.own el σ.length n 0 n) (σ ++ [.vec el xs])) := bsliceV_of el e _ ps _
@[go_sem] theorem bsliceT_nil (z : List AV) (K : List AV → Prop) : bsliceT el z [] (.mk : Tg K) = K z := _root_.id rfl
@[go_sem] theorem bsliceT_cons (z : List AV) (i : Nat) (v : AV) (r : List (Nat × AV)) (K : List AV → Prop) : bsliceT el z ((i, v) :: r) (.mk : Tg K) = req (v.fits el = true ∧ i < z.length) (.mk : Tg (bsliceT el (z.set i v) r (.mk : Tg K))) := by
  rw [← and_req]; simp only [bsliceT, bsliceV, and_assoc]

/-! ### Parts of elements -/
def partT (c : Bool) (el : El) (x : AV) (off : Nat) (ag : Bool) (n : Nat) {K : AV → Prop} (_ : Tg K) : Prop := c = (off == 0 && n == el.sz && ag == el.ag) ∧ partOf el x off ag n K
@[go_sem] theorem loadT_eref (ag : Bool) (n : Nat) (el : El) (x : AV) (off : Nat) (K : AV → Prop) : loadT σ ag n (.eref el x off) (.mk : Tg K) = partT (off == 0 && n == el.sz && ag == el.ag) el x off ag n (.mk : Tg K) := by
  simp only [partT, true_and]; rfl
@[go_sem] theorem partT_t (ag : Bool) (n : Nat) (x : AV) (K : AV → Prop) : partT true ⟨ag, n⟩ x 0 ag n (.mk : Tg K) = K x := by
  simp [partT, partOf]
@[go_sem] theorem partT_f (el : El) (off n : Nat) (cs : List AV) (K : AV → Prop) (h : (off == 0 && n == el.sz && false == el.ag) = false) : partT false el (.agg cs) off false n (.mk : Tg K) = req (off + n ≤ el.sz ∧ n = 1) (.mk : Tg (K (cs.getD off .undef))) := by
  have hn : ¬ (off = 0 ∧ n = el.sz ∧ false = el.ag) := by rintro ⟨h1, h2, h3⟩; subst h1; subst h2; rw [← h3] at h; simp at h
  rw [← and_req]; simp only [partT, partOf, if_neg hn, h, true_and]
  simp only [Bool.false_eq_true, if_false, forall_const, eq_iff_iff]
  exact ⟨fun ⟨h1, h2, h3⟩ => ⟨⟨h1, h3⟩, h2⟩, fun ⟨⟨h1, h3⟩, h2⟩ => ⟨h1, h2, h3⟩⟩

/-! ### Append -/
def appO (σ : Store) (T : Option TypeId) (el : El) (o : Option AObj) (l m lo n : Nat) (ys : List AV) {K : AV → Store → Prop} (_ : Tg K) : Prop := match o with
  | some (.vecT T' el'' xs) => (T' = none ∨ T' = T) ∧ el'' = el ∧ m = xs.length ∧ lo = 0 ∧ n = xs.length ∧ roomOk (xs.length + ys.length) el ∧
        K (.own el l (xs.length + ys.length) 0 (xs.length + ys.length)) (σ.set l (.vecT T' el (xs ++ ys)))
  | _ => False
@[go_sem] theorem op_app_own (T : Option TypeId) (ys : List AV) : opT P (.app T el (.c (.own el l m lo n)) (.c (.lst f el ys))) σ (.mk : Tg (K, Kp)) = req (ys.all (fun a => a.fits el) = true) (.mk : Tg (appO σ T el (σ[l]?) l m lo n ys (.mk : Tg K))) := by
  rw [← and_req]; simp only [opT, AOp.run, AX.ev, appA, listA, appO, true_and]; rfl
@[go_sem] theorem appO_eq (T : Option TypeId) (xs ys : List AV) : appO σ T el (some (.vec el xs)) l m lo n ys (.mk : Tg K) = req (m = xs.length ∧ lo = 0 ∧ n = xs.length ∧ roomOk (xs.length + ys.length) el) (.mk : Tg (K (.own el l (xs.length + ys.length) 0 (xs.length + ys.length)) (σ.set l (.vec el (xs ++ ys))))) := by
  rw [← and_req]; simp only [appO, true_and, true_or, and_assoc]
@[go_sem] theorem appO_eqT (t : TypeId) (xs ys : List AV) : appO σ (some t) el (some (.vecT (some t) el xs)) l m lo n ys (.mk : Tg K) = req (m = xs.length ∧ lo = 0 ∧ n = xs.length ∧ roomOk (xs.length + ys.length) el) (.mk : Tg (K (.own el l (xs.length + ys.length) 0 (xs.length + ys.length)) (σ.set l (.vecT (some t) el (xs ++ ys))))) := by
  rw [← and_req]; simp only [appO, true_and, or_true, and_assoc]
@[go_sem] theorem op_app_nils (y : AV) (ys : List AV) : opT P (.app none el (.c .nils) (.c (.lst f el (y :: ys)))) σ (.mk : Tg (K, Kp)) = req ((y :: ys).all (fun a => a.fits el) = true ∧ roomOk (y :: ys).length el) (.mk : Tg (K (.own el σ.length (y :: ys).length 0 (y :: ys).length) (σ ++ [.vec el (y :: ys)]))) := by
  rw [← and_req]
  simp only [opT, AOp.run, AX.ev, appA, listA, true_and, List.length_cons, Nat.add_eq_zero_iff, Nat.one_ne_zero, and_false, if_false, and_assoc]
@[go_sem] theorem op_app_nilsT (t : TypeId) (y : AV) (ys : List AV) : opT P (.app (some t) el (.c .nils) (.c (.lst f el (y :: ys)))) σ (.mk : Tg (K, Kp)) = req ((y :: ys).all (fun a => a.fits el) = true ∧ roomOk (y :: ys).length el) (.mk : Tg (K (.own el σ.length (y :: ys).length 0 (y :: ys).length) (σ ++ [.vecT (some t) el (y :: ys)]))) := by
  rw [← and_req]
  simp only [opT, AOp.run, AX.ev, appA, listA, true_and, List.length_cons, Nat.add_eq_zero_iff, Nat.one_ne_zero, and_false, if_false, and_assoc]
@[go_sem] theorem op_app_full (xs : List AV) (y : AV) (ys : List AV) (f' : Bool) : opT P (.app none el (.c (.lst true el xs)) (.c (.lst f' el (y :: ys)))) σ (.mk : Tg (K, Kp)) = req ((y :: ys).all (fun a => a.fits el) = true ∧ roomOk (xs.length + (y :: ys).length) el) (.mk : Tg (K (.own el σ.length (xs.length + (y :: ys).length) 0 (xs.length + (y :: ys).length)) (σ ++ [.vec el (xs ++ y :: ys)]))) := by
  rw [← and_req]
  simp only [opT, AOp.run, AX.ev, appA, listA, true_and, List.length_cons, Nat.add_eq_zero_iff, Nat.one_ne_zero, and_false, if_false, and_assoc]
theorem op_usd_nil : opT P (.usd el (.c .nils)) σ (.mk : Tg (K, Kp)) = K .nilp σ := _root_.id rfl
theorem op_usd_own {T : Option TypeId} {xs : List AV} (h : σ[l]? = some (.vecT T el xs)) (hm : m = xs.length) (hn : 0 < n) (hk : K (.vref el l m lo 0) σ) : opT P (.usd el (.c (.own el l m lo n))) σ (.mk : Tg (K, Kp)) := by
  simp only [opT, AOp.run, AX.ev, h]; exact ⟨trivial, trivial, hm, hn, hk⟩
theorem op_ustr_nil (T : TypeId) : opT P (.ustr T (.c .nilp) (.c (.int .i64 0))) σ (.mk : Tg (K, Kp)) = K (.str []) σ := by
  simp [opT, AOp.run, AX.ev]
theorem op_ustr_own {T : TypeId} {xs : List AV} (s : List UInt8) (h : σ[l]? = some (.vecT (some T) ⟨false, 1⟩ xs)) (hm : m = xs.length) (hx : xs = s.map fun b => .int .u8 b.toNat) (h0 : s ≠ []) (h2 : s.length ≤ 2 ^ 62) (ha : a = (s.length : Int)) (hk : K (.str s) (σ.set l .dead)) :
    opT P (.ustr T (.c (.vref ⟨false, 1⟩ l m 0 0)) (.c (.int .i64 a))) σ (.mk : Tg (K, Kp)) := by
  subst hx; subst ha
  have h1 : 0 < s.length := List.length_pos_iff.2 h0
  simp only [opT, AOp.run, AX.ev, h]
  refine ⟨trivial, trivial, trivial, trivial, hm, by omega, by simp, by simpa using h2, s, ?_, hk⟩
  rw [List.take_of_length_le (by simp)]
theorem op_p2u {T : Option TypeId} (h : σ[l]? = some (.cellsT T cs)) (hlt : off < cs.length) (hk : K (.ref l off) σ) : opT P (.p2u (.c (.ref l off))) σ (.mk : Tg (K, Kp)) := by
  simp only [opT, AOp.run, AX.ev, h]; exact ⟨hlt, hk⟩
theorem op_u2p {T u : TypeId} (h : σ[l]? = some (.cellsT (some T) cs)) (hlt : liesAt P P.depth T (cs.length / P.cellsOf T) off u 1 = true) (hk : K (.ref l off) σ) : opT P (.u2p u (.c (.ref l off))) σ (.mk : Tg (K, Kp)) := by
  simp only [opT, AOp.run, AX.ev, h]; exact ⟨hlt, hk⟩
theorem op_eqp {T : Option TypeId} (ng : Bool) (h : σ[l]? = some (.cellsT T cs)) (hk : K (.bool ng.not) σ) : opT P (.eqp ng (.c (.ref l off)) (.c (.ref l off))) σ (.mk : Tg (K, Kp)) := by
  simp only [opT, AOp.run, AX.ev, h]; exact ⟨trivial, trivial, hk⟩
theorem run_noesc_i {g : FuncId} {x : AX} {e : Env} (h : ∃ fn, P.funcs[g]? = some fn ∧ (fn.name == "runtime.NumGoroutine") = false ∧ fn.body.isNone = true ∧ Extern.findNext fn = none ∧ Extern.find fn = some Extern.AbiNoEscape.same) (hk : K (x.ev e) σ) : AOp.run P (.noesc g x) e σ K Kp := ⟨h, hk⟩
def noescT (P : Program) (g : FuncId) (v : AV) (σ : Store) {K : AV → Store → Prop} (_ : Tg K) : Prop := (∃ fn, P.funcs[g]? = some fn ∧ (fn.name == "runtime.NumGoroutine") = false ∧ fn.body.isNone = true ∧ Extern.findNext fn = none ∧ Extern.find fn = some Extern.AbiNoEscape.same) ∧ K v σ
@[go_sem ↓] theorem run_noesc (g : FuncId) (x : AX) : AOp.run P (.noesc g x) e σ K Kp = noescT P g (x.ev e) σ (.mk : Tg K) := _root_.id rfl
theorem op_eqnil (ng : Bool) (k : NK) (x y : AV) : opT P (.eqnil ng k (.c x) (.c y)) σ (.mk : Tg (K, Kp)) = (match nilEq k x y with | some b => K (.bool (if ng then !b else b)) σ | none => False) := rfl
theorem op_eqf_t (ng : Bool) (ks : List Kd) (xs ys : List AV) : opT P (.eqf ng true ks (.c (.agg xs)) (.c (.agg ys))) σ (.mk : Tg (K, Kp)) = (match kdsEq ks xs ys with | some b => K (.bool (if ng then !b else b)) σ | none => False) := rfl
theorem op_eqf_f (ng : Bool) (ks : List Kd) (x y : AV) : opT P (.eqf ng false ks (.c x) (.c y)) σ (.mk : Tg (K, Kp)) = (match kdsEq ks [x] [y] with | some b => K (.bool (if ng then !b else b)) σ | none => False) := rfl
@[go_sem] theorem op_s2b : opT P (.s2b (.c (.str s))) σ (.mk : Tg (K, Kp)) = req (s.length ≤ 2 ^ 40) (.mk : Tg (K (.own ⟨false, 1⟩ σ.length s.length 0 s.length) (σ ++ [.vec ⟨false, 1⟩ (s.map fun b => .int .u8 b.toNat)]))) := by
  rw [← and_req]; rfl
@[go_sem] theorem op_mkslice (z : AV) : opT P (.mkslice el z (.c (.int .i64 a)) (.c (.int .i64 b))) σ (.mk : Tg (K, Kp)) = req (z.fits el = true ∧ 0 ≤ a ∧ a ≤ b ∧ b * (el.sz + 1) ≤ 2 ^ 40) (.mk : Tg (K (.own el σ.length a.toNat 0 a.toNat) (σ ++ [.vec el (List.replicate a.toNat z)]))) := by
  rw [← and_req]; simp only [opT, AOp.run, AX.ev, and_assoc]
@[go_sem] theorem op_slL_lst_ll (xs : List AV) : opT P (.slL el (.c (.lst f el xs)) (some (.c (.int k a))) (some (.c (.int k' b)))) σ (.mk : Tg (K, Kp)) = req ((0 ≤ b ∧ b ≤ xs.length) ∧ 0 ≤ a ∧ a ≤ b) (.mk : Tg (K (.lst false el ((xs.drop a.toNat).take (b.toNat - a.toNat))) σ)) := by
  rw [← and_req]; simp only [opT, AOp.run, AX.ev, bound, Option.map, and_assoc, true_and, eq_iff_iff]
  constructor
  · rintro ⟨h1, h2, h3, h4, h5⟩; exact ⟨h1, h2, h3, by omega, h5⟩
  · rintro ⟨h1, h2, h3, h4, h5⟩; exact ⟨h1, h2, h3, by omega, h5⟩
@[go_sem] theorem op_slL_lst_nl (xs : List AV) : opT P (.slL el (.c (.lst f el xs)) none (some (.c (.int k' b)))) σ (.mk : Tg (K, Kp)) = req (0 ≤ b ∧ b ≤ xs.length) (.mk : Tg (K (.lst false el (xs.take b.toNat)) σ)) := by
  rw [← and_req]; simp only [opT, AOp.run, AX.ev, bound, Option.map, and_assoc, true_and, List.drop_zero, Nat.sub_zero]
@[go_sem] theorem op_slL_lst_ln (xs : List AV) : opT P (.slL el (.c (.lst f el xs)) (some (.c (.int k a))) none) σ (.mk : Tg (K, Kp)) = req (0 ≤ a ∧ a ≤ xs.length) (.mk : Tg (K (.lst false el (xs.drop a.toNat)) σ)) := by
  rw [← and_req]; simp only [opT, AOp.run, AX.ev, bound, Option.map, and_assoc, true_and]
  have : (xs.drop a.toNat).take (xs.length - a.toNat) = xs.drop a.toNat := List.take_of_length_le (by simp)
  rw [this]
end
end Go.AM
