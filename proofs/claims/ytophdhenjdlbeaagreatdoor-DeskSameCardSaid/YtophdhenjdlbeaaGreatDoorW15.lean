/- Part of a proof: see Root. -/
import Derived.Test.YtophdhenjdlbeaaGreatDoorW14
import Derived.Test.YtophdhenjdlbeaaGreatDoorChecked
import Derived.KernelRfl
set_option linter.unnecessarySimpa false
set_option linter.unusedSectionVars false
set_option linter.unusedSimpArgs false
set_option linter.unusedVariables false
namespace Go.AM
variable {P : Program}
theorem wrapK_u8 {n : Int} (h : 0 ≤ n) (h' : n ≤ 255) : wrapK .u8 n = n := by
  show IntKind.wrap .u8 n = n
  simp [IntKind.wrap, IntKind.bits, IntKind.signed]; omega
theorem wrapK_u64 {n : Int} (h : 0 ≤ n) (h' : n < 18446744073709551616) : wrapK .u64 n = n := by
  show IntKind.wrap .u64 n = n
  simp [IntKind.wrap, IntKind.bits, IntKind.signed]; omega
theorem get_list {s : List UInt8} {i : Nat} (h : i < s.length) : (⟨s.toArray⟩ : ByteArray).get! i = s.getD i 0 := by
  simp only [ByteArray.get!]
  rw [getElem!_pos _ i (by simpa using h), List.getD_eq_getElem?_getD, List.getElem?_eq_getElem h]; simp
def wideRune (s : List UInt8) (pos : Nat) : Nat := (Utf8.decode ⟨s.toArray⟩ pos).1
theorem decode_ascii {s : List UInt8} {pos : Nat} (h : pos < s.length) (ha : (s.getD pos 0).toNat < 128) : Utf8.decode ⟨s.toArray⟩ pos = ((s.getD pos 0).toNat, 1) := by
  unfold Utf8.decode
  simp only [Nat.add_zero, get_list h]
  rw [if_pos ha]
noncomputable def bitsO : BinOp → IntKind → Int → Int → Int := Classical.choose (⟨bitsK, rfl⟩ : ∃ f, f = bitsK)
theorem bitsO_eq : bitsO = bitsK := Classical.choose_spec (⟨bitsK, rfl⟩ : ∃ f, f = bitsK)
section
variable (K : AV → Prop) (k : IntKind) (a b : Int) (s t : List UInt8)
@[go_sem] theorem binT_and : binT .and (.int k a) (.int k b) (.mk : Tg K) = K (.int k (bitsO .and k a b)) := by rw [bitsO_eq]; simp [binT, binA]
@[go_sem] theorem binT_or : binT .or (.int k a) (.int k b) (.mk : Tg K) = K (.int k (bitsO .or k a b)) := by rw [bitsO_eq]; simp [binT, binA]
@[go_sem] theorem binT_xor : binT .xor (.int k a) (.int k b) (.mk : Tg K) = K (.int k (bitsO .xor k a b)) := by rw [bitsO_eq]; simp [binT, binA]
@[go_sem] theorem binT_andNot : binT .andNot (.int k a) (.int k b) (.mk : Tg K) = K (.int k (bitsO .andNot k a b)) := by rw [bitsO_eq]; simp [binT, binA]
@[go_sem] theorem binT_shl (k' : IntKind) : binT .shl (.int k a) (.int k' b) (.mk : Tg K) = req (0 ≤ b) (.mk : Tg (K (.int k (wrapK k (a * 2 ^ (Nat.min b.toNat k.bits)))))) := by rw [← and_req]; simp [binT, binA]
@[go_sem] theorem binT_shr (k' : IntKind) : binT .shr (.int k a) (.int k' b) (.mk : Tg K) = req (0 ≤ b) (.mk : Tg (K (.int k (a.fdiv (2 ^ (Nat.min b.toNat k.bits)))))) := by rw [← and_req]; simp [binT, binA]
@[go_sem] theorem binT_lssS : binT .lss (.str s) (.str t) (.mk : Tg K) = K (.bool (Op.bytesLess s t)) := by simp [binT, binA]
@[go_sem] theorem binT_leqS : binT .leq (.str s) (.str t) (.mk : Tg K) = K (.bool (Op.bytesLess s t || s == t)) := by simp [binT, binA]
@[go_sem] theorem binT_gtrS : binT .gtr (.str s) (.str t) (.mk : Tg K) = K (.bool (!(Op.bytesLess s t || s == t))) := by simp [binT, binA]
@[go_sem] theorem binT_geqS : binT .geq (.str s) (.str t) (.mk : Tg K) = K (.bool (!Op.bytesLess s t)) := by simp [binT, binA]
@[go_sem] theorem unT_neg : unT .neg (.int k a) (.mk : Tg K) = K (.int k (wrapK k (0 - a))) := _root_.id rfl
@[go_sem] theorem unT_xor : unT .xor (.int k a) (.mk : Tg K) = K (.int k (bitsO .xor k (if k.signed then -1 else k.max) a)) := by rw [bitsO_eq]; rfl
end
section
variable (σ : Store) (K Kp : AV → Store → Prop)
variable (k k' : IntKind) (a b : Int) (s t : List UInt8) (el : El) (xs cs : List AV) (l m lo n off i : Nat) (f : Bool)
def iaO (el : El) (o : Option AObj) (l m j : Nat) {K : AV → Prop} (_ : Tg K) : Prop := match o with
  | some (.vecT _ el'' xs) => el'' = el ∧ m = xs.length ∧ K (.vref el l m j 0)
  | _ => False
@[go_sem] theorem op_iaddr_own : opT P (.iaddr el none (.c (.own el l m lo n)) (.c (.int k a))) σ (.mk : Tg (K, Kp)) = req (0 ≤ a ∧ a < n) (.mk : Tg (iaO el (σ[l]?) l m (lo + a.toNat) (.mk : Tg fun v => K v σ))) := by
  rw [← and_req]; simp only [opT, AOp.run, AX.ev, iaO, true_and, and_assoc]; rfl
@[go_sem] theorem iaO_eq (K : AV → Prop) : iaO el (some (.vec el xs)) l m i (.mk : Tg K) = req (m = xs.length) (.mk : Tg (K (.vref el l m i 0))) := by
  rw [← and_req]; simp [iaO]
@[go_sem] theorem op_iaddr_arr_ref : opT P (.iaddr el (some n) (.c (.ref l i)) (.c (.int k a))) σ (.mk : Tg (K, Kp)) = req (0 ≤ a ∧ a < n) (.mk : Tg (K (.ref l (i + a.toNat * el.sz)) σ)) := by
  rw [← and_req]; simp only [opT, AOp.run, AX.ev, and_assoc]
@[go_sem] theorem op_idxA_f (ln : Nat) : opT P (.idxA ⟨false, 1⟩ ln (.c (.agg cs)) (.c (.int k a))) σ (.mk : Tg (K, Kp)) = req (0 ≤ a ∧ a < ln ∧ a.toNat + 1 ≤ cs.length) (.mk : Tg (K (cs.getD a.toNat .undef) σ)) := by
  rw [← and_req]; simp [opT, AOp.run, AX.ev, and_assoc]
@[go_sem] theorem op_idxA_t (ln sz : Nat) : opT P (.idxA ⟨true, sz⟩ ln (.c (.agg cs)) (.c (.int k a))) σ (.mk : Tg (K, Kp)) = req (0 ≤ a ∧ a < ln ∧ a.toNat * sz + sz ≤ cs.length) (.mk : Tg (K (.agg ((cs.drop (a.toNat * sz)).take sz)) σ)) := by
  rw [← and_req]; simp [opT, AOp.run, AX.ev, and_assoc]
def ldV (el : El) (o : Option AObj) (m i off : Nat) (ag : Bool) (n : Nat) {K : AV → Prop} (_ : Tg K) : Prop := match o with
  | some (.vecT _ el' xs) => el' = el ∧ m = xs.length ∧ i < xs.length ∧ partOf el (xs.getD i .undef) off ag n K
  | _ => False
@[go_sem] theorem loadT_vref (ag : Bool) (K : AV → Prop) : loadT σ ag n (.vref el l m i off) (.mk : Tg K) = ldV el (σ[l]?) m i off ag n (.mk : Tg K) := _root_.id rfl
@[go_sem] theorem ldV_eq (ag : Bool) (K : AV → Prop) : ldV el (some (.vec el xs)) m i off ag n (.mk : Tg K) = req (m = xs.length ∧ i < xs.length) (.mk : Tg (partT (off == 0 && n == el.sz && ag == el.ag) el (xs.getD i .undef) off ag n (.mk : Tg K))) := by
  rw [← and_req]; simp only [ldV, partT, true_and, and_assoc]
@[go_sem] theorem partT_g (off n : Nat) (cs : List AV) (K : AV → Prop) (h : (off == 0 && n == el.sz && true == el.ag) = false) : partT false el (.agg cs) off true n (.mk : Tg K) = req (off + n ≤ el.sz) (.mk : Tg (K (.agg ((cs.drop off).take n)))) := by
  have hn : ¬ (off = 0 ∧ n = el.sz ∧ true = el.ag) := by rintro ⟨h1, h2, h3⟩; subst h1; subst h2; rw [← h3] at h; simp at h
  rw [← and_req]; simp only [partT, partOf, if_neg hn, h, true_and]
  simp
def stV (σ : Store) (el : El) (l : Nat) (o : Option AObj) (m i off n : Nat) (v : AV) {K : Store → Prop} (_ : Tg K) : Prop := v.cells.length = n ∧ v.cells.all AV.scalar = true ∧ match o with
  | some (.vecT T el' xs) => el' = el ∧ m = xs.length ∧ i < xs.length ∧ off + n ≤ el.sz ∧ (el.ag = false → v.fits el = true) ∧
        K (σ.set l (.vecT T el (xs.set i (if el.ag then .agg (setMany (xs.getD i .undef).cells off v.cells) else v))))
  | _ => False
@[go_sem] theorem storeT_vref (v : AV) (K : Store → Prop) : storeT σ n (.vref el l m i off) v (.mk : Tg K) = stV σ el l (σ[l]?) m i off n v (.mk : Tg K) := _root_.id rfl
@[go_sem] theorem stV_eq (v : AV) (K : Store → Prop) : stV σ el l (some (.vec el xs)) m i off n v (.mk : Tg K) = req (v.cells.length = n ∧ v.cells.all AV.scalar = true ∧ m = xs.length ∧ i < xs.length ∧ off + n ≤ el.sz ∧ (el.ag = false → v.fits el = true)) (.mk : Tg (K (σ.set l (.vec el (xs.set i (if el.ag then .agg (setMany (xs.getD i .undef).cells off v.cells) else v)))))) := by
  rw [← and_req]; simp only [stV, true_and, and_assoc]
def slO (σ : Store) (el : El) (o : Option AObj) (l m lo n : Nat) (x y : Option AV) {K : AV → Store → Prop} (_ : Tg K) : Prop := match o with
  | some (.vecT _ el'' xs) => el'' = el ∧ m = xs.length ∧ lo + n ≤ m ∧ bound y n n fun h => bound x 0 h fun k => K (.own el l m (lo + k) (h - k)) σ
  | _ => False
@[go_sem] theorem op_slL_own (x y : Option AX) : opT P (.slL el (.c (.own el l m lo n)) x y) σ (.mk : Tg (K, Kp)) = slO σ el (σ[l]?) l m lo n (x.map (AX.ev fun _ => .undef)) (y.map (AX.ev fun _ => .undef)) (.mk : Tg K) := by
  simp only [opT, AOp.run, AX.ev, slO, true_and]; rfl
@[go_sem] theorem slO_ll : slO σ el (some (.vec el xs)) l m lo n (some (.int k a)) (some (.int k' b)) (.mk : Tg K) = req (m = xs.length ∧ lo + n ≤ m ∧ (0 ≤ b ∧ b ≤ n) ∧ 0 ≤ a ∧ a ≤ b) (.mk : Tg (K (.own el l m (lo + a.toNat) (b.toNat - a.toNat)) σ)) := by
  rw [← and_req]; simp only [slO, bound, and_assoc, true_and, eq_iff_iff]
  constructor
  · rintro ⟨h1, h2, h3, h4, h5, h6, h7⟩; exact ⟨h1, h2, h3, h4, h5, by omega, h7⟩
  · rintro ⟨h1, h2, h3, h4, h5, h6, h7⟩; exact ⟨h1, h2, h3, h4, h5, by omega, h7⟩
@[go_sem] theorem slO_nl : slO σ el (some (.vec el xs)) l m lo n none (some (.int k' b)) (.mk : Tg K) = req (m = xs.length ∧ lo + n ≤ m ∧ 0 ≤ b ∧ b ≤ n) (.mk : Tg (K (.own el l m lo b.toNat) σ)) := by
  rw [← and_req]; simp only [slO, bound, and_assoc, true_and, Nat.add_zero, Nat.sub_zero]
@[go_sem] theorem slO_ln : slO σ el (some (.vec el xs)) l m lo n (some (.int k a)) none (.mk : Tg K) = req (m = xs.length ∧ lo + n ≤ m ∧ 0 ≤ a ∧ a ≤ n) (.mk : Tg (K (.own el l m (lo + a.toNat) (n - a.toNat)) σ)) := by
  rw [← and_req]; simp only [slO, bound, and_assoc, true_and]
@[go_sem] theorem slO_nn : slO σ el (some (.vec el xs)) l m lo n none none (.mk : Tg K) = req (m = xs.length ∧ lo + n ≤ m) (.mk : Tg (K (.own el l m lo n) σ)) := by
  rw [← and_req]; simp only [slO, bound, and_assoc, true_and, Nat.add_zero, Nat.sub_zero]
@[go_sem] theorem op_slL_lst_nn : opT P (.slL el (.c (.lst f el xs)) none none) σ (.mk : Tg (K, Kp)) = K (.lst false el xs) σ := by
  simp [opT, AOp.run, AX.ev, bound]
def bytesOf (xs : List AV) : List UInt8 := xs.map fun a => match a with | .int _ n => UInt8.ofNat n.toNat | _ => 0
def b2sO (o : Option AObj) (m lo n : Nat) {K : AV → Prop} (_ : Tg K) : Prop := match o with
  | some (.vecT _ el xs) => el = ⟨false, 1⟩ ∧ m = xs.length ∧ ∃ s : List UInt8, (xs.drop lo).take n = s.map (fun b => AV.int .u8 b.toNat) ∧ K (.str s)
  | _ => False
@[go_sem] theorem op_b2s_own : opT P (.b2s (.c (.own ⟨false, 1⟩ l m lo n))) σ (.mk : Tg (K, Kp)) = b2sO (σ[l]?) m lo n (.mk : Tg fun v => K v σ) := by
  simp only [opT, AOp.run, AX.ev, listA, b2sO, true_and]; rfl
@[go_sem] theorem op_b2s_lst (s : List UInt8) : opT P (.b2s (.c (.lst f ⟨false, 1⟩ (s.map fun b => .int .u8 b.toNat)))) σ (.mk : Tg (K, Kp)) = K (.str s) σ := by
  simp only [opT, AOp.run, AX.ev, listA, true_and, eq_iff_iff]
  constructor
  · rintro ⟨s', h, hk⟩
    have : s = s' := (List.map_inj_right (fun x y hxy => by simp at hxy; exact UInt8.toNat_inj.1 (Int.ofNat_inj.1 hxy))).1 h
    exact this ▸ hk
  · exact fun hk => ⟨s, rfl, hk⟩
theorem b2sO_whole {K : AV → Prop} {xs : List AV} {m n : Nat} (s : List UInt8) (hx : xs = s.map fun b => AV.int .u8 b.toNat) (hm : m = xs.length) (hn : n = xs.length) (hk : K (.str s)) : b2sO (some (.vec ⟨false, 1⟩ xs)) m 0 n (.mk : Tg K) :=
  ⟨rfl, hm, s, by rw [hn, ← hx]; simp, hk⟩
@[go_sem] theorem op_app_nils_s (t : TypeId) (c : UInt8) : opT P (.app (some t) ⟨false, 1⟩ (.c .nils) (.c (.str (c :: s)))) σ (.mk : Tg (K, Kp)) = req (roomOk (s.length + 1) ⟨false, 1⟩) (.mk : Tg (K (.own ⟨false, 1⟩ σ.length (s.length + 1) 0 (s.length + 1)) (σ ++ [.vecT (some t) ⟨false, 1⟩ ((c :: s).map fun b => .int .u8 b.toNat)]))) := by
  rw [← and_req]
  have h : ((c :: s).map fun b => AV.int .u8 b.toNat).all (fun a => a.fits ⟨false, 1⟩) = true := by simp [AV.fits]
  simp only [opT, AOp.run, AX.ev, appA, listA, true_and, h, List.length_map, List.length_cons, Nat.add_eq_zero_iff, Nat.one_ne_zero, and_false, if_false]
@[go_sem] theorem op_app_nils_s0 (T : Option TypeId) : opT P (.app T ⟨false, 1⟩ (.c .nils) (.c (.str []))) σ (.mk : Tg (K, Kp)) = K .nils σ := by
  simp [opT, AOp.run, AX.ev, appA, listA]
@[go_sem] theorem op_app_own_s (T : Option TypeId) : opT P (.app T ⟨false, 1⟩ (.c (.own ⟨false, 1⟩ l m lo n)) (.c (.str s))) σ (.mk : Tg (K, Kp)) = appO σ T ⟨false, 1⟩ (σ[l]?) l m lo n (s.map fun b => .int .u8 b.toNat) (.mk : Tg K) := by
  have : ((s.map fun b => AV.int .u8 b.toNat).all fun a => a.fits ⟨false, 1⟩) = true := by simp [AV.fits]
  simp only [opT, AOp.run, AX.ev, appA, listA, appO, true_and, this]; rfl
def kdsK (ng : Bool) (acc : Bool) (ks : List Kd) (xs ys : List AV) {K : AV → Prop} (_ : Tg K) : Prop := match kdsEq ks xs ys with
  | some c => K (.bool (if ng then !(acc && c) else acc && c))
  | none => False
theorem kdsK_nil (acc : Bool) (K : AV → Prop) : kdsK false acc [] [] [] (.mk : Tg K) = K (.bool acc) := by simp [kdsK, kdsEq]
theorem kdsK_niln (acc : Bool) (K : AV → Prop) : kdsK true acc [] [] [] (.mk : Tg K) = K (.bool (!acc)) := by simp [kdsK, kdsEq]
theorem kdsK_cons (ng acc c : Bool) (kd : Kd) (x y : AV) (ks : List Kd) (xs ys : List AV) (K : AV → Prop) (h : kdEq kd x y = some c) : kdsK ng acc (kd :: ks) (x :: xs) (y :: ys) (.mk : Tg K) = kdsK ng (acc && c) ks xs ys (.mk : Tg K) := by
  simp only [kdsK, kdsEq, h]
  cases kdsEq ks xs ys <;> simp [Bool.and_assoc]
attribute [go_sem] kdsK_nil kdsK_niln
@[go_sem] theorem kdsK_i (ng acc : Bool) (ks : List Kd) (xs ys : List AV) (K : AV → Prop) : kdsK ng acc (.i :: ks) (.int k a :: xs) (.int k b :: ys) (.mk : Tg K) = kdsK ng (acc && (a == b)) ks xs ys (.mk : Tg K) := kdsK_cons _ _ _ _ _ _ _ _ _ _ (by simp [kdEq])
@[go_sem] theorem kdsK_s (ng acc : Bool) (ks : List Kd) (xs ys : List AV) (K : AV → Prop) : kdsK ng acc (.s :: ks) (.str s :: xs) (.str t :: ys) (.mk : Tg K) = kdsK ng (acc && (s == t)) ks xs ys (.mk : Tg K) := kdsK_cons _ _ _ _ _ _ _ _ _ _ rfl
@[go_sem] theorem kdsK_b (ng acc p q : Bool) (ks : List Kd) (xs ys : List AV) (K : AV → Prop) : kdsK ng acc (.b :: ks) (.bool p :: xs) (.bool q :: ys) (.mk : Tg K) = kdsK ng (acc && (p == q)) ks xs ys (.mk : Tg K) := kdsK_cons _ _ _ _ _ _ _ _ _ _ rfl
@[go_sem] theorem op_eqf_t2 (ng : Bool) (ks : List Kd) (xs ys : List AV) : opT P (.eqf ng true ks (.c (.agg xs)) (.c (.agg ys))) σ (.mk : Tg (K, Kp)) = kdsK ng true ks xs ys (.mk : Tg fun v => K v σ) := by
  rw [op_eqf_t]; simp only [kdsK]; cases kdsEq ks xs ys <;> simp
@[go_sem] theorem op_eqf_f2 (ng : Bool) (ks : List Kd) (x y : AV) : opT P (.eqf ng false ks (.c x) (.c y)) σ (.mk : Tg (K, Kp)) = kdsK ng true ks [x] [y] (.mk : Tg fun v => K v σ) := by
  rw [op_eqf_f]; simp only [kdsK]; cases kdsEq ks [x] [y] <;> simp
def nilK (ng : Bool) (o : Option Bool) {K : AV → Prop} (_ : Tg K) : Prop := match o with
  | some c => K (.bool (if ng then !c else c))
  | none => False
@[go_sem] theorem nilK_f (c : Bool) (K : AV → Prop) : nilK false (some c) (.mk : Tg K) = K (.bool c) := _root_.id rfl
@[go_sem] theorem nilK_t (c : Bool) (K : AV → Prop) : nilK true (some c) (.mk : Tg K) = K (.bool (!c)) := _root_.id rfl
@[go_sem] theorem op_eqnil2 (ng : Bool) (kn : NK) (x y : AV) : opT P (.eqnil ng kn (.c x) (.c y)) σ (.mk : Tg (K, Kp)) = nilK ng (nilEq kn x y) (.mk : Tg fun v => K v σ) := by
  rw [op_eqnil]; rfl
end
theorem scope_no {l : Nat} {c r : ACode} {Q : AQ} {e : Env} {σ : Store} (h : wpA P c (jumpQ l (fun _ _ => False) Q) e σ) : scopeK P (.mk : Tg (l, c, r, Q, e, σ)) :=
  ⟨fun _ _ _ => False, wpA_mono (fun ex e σ hq => by cases ex <;> first | exact hq | exact hq.2.elim) _ _ h, fun _ _ _ h => h.elim⟩
@[go_sem ↓] theorem jumpQ_normal (l : Nat) (J : Env → Store → Prop) (Q : AQ) (e : Env) (σ : Store) : jumpQ l J Q .normal e σ = Q .normal e σ := _root_.id rfl
@[go_sem ↓] theorem jumpQ_exit (l i : Nat) (J : Env → Store → Prop) (Q : AQ) (e : Env) (σ : Store) : jumpQ l J Q (.exit i) e σ = Q (.exit i) e σ := _root_.id rfl
@[go_sem ↓] theorem jumpQ_ret (l : Nat) (J : Env → Store → Prop) (Q : AQ) (e : Env) (σ : Store) : jumpQ l J Q .ret e σ = Q .ret e σ := _root_.id rfl
@[go_sem ↓] theorem jumpQ_panic (l : Nat) (J : Env → Store → Prop) (Q : AQ) (v : AV) (e : Env) (σ : Store) : jumpQ l J Q (.panic v) e σ = Q (.panic v) e σ := _root_.id rfl
@[go_sem] theorem getElem?_last {α : Type} (τ : List α) (c : α) : (τ ++ [c])[τ.length]? = some c := by simp
@[go_sem] theorem set_last {α : Type} (τ : List α) (c d : α) : (τ ++ [c]).set τ.length d = τ ++ [d] := by simp
theorem out_ovl2 {ms ms' : List Nat} {r e e' : Env} (hs : ms'.all (fun t => ms.contains t) = true) (h : Out? ms e e') : Out? ms e (ovl ms' r e') := fun t ht => by
  simp only [ovl]
  split
  · rename_i h1
    rw [List.all_eq_true] at hs
    have := hs t (by simpa using h1)
    rw [ht] at this; cases this
  · exact h t ht
theorem take_one {s : List UInt8} {n i : Nat} (hn : n = 1) (hi : i < s.length) : List.take n (List.drop i s) = [s.getD i 0] := by
  subst hn
  rw [List.drop_eq_getElem_cons hi, List.getD_eq_getElem?_getD, List.getElem?_eq_getElem hi]; rfl
@[go_sem ↓] theorem apartAll_nil (e : Env) : apartAll [] e = True := _root_.id rfl
@[go_sem ↓] theorem apartAll_cons (x y : AX) (r : List (AX × AX)) (e : Env) : apartAll ((x, y) :: r) e = (apartA (x.ev e) (y.ev e) ∧ apartAll r e) := _root_.id rfl
@[go_sem] theorem apartA_e1 (el : El) (x : AV) (o : Nat) (q : AV) : apartA (.eref el x o) q = True := by simp [apartA, AV.obj]
@[go_sem] theorem apartA_e2 (el : El) (x : AV) (o : Nat) (q : AV) : apartA q (.eref el x o) = True := by simp [apartA, AV.obj]
@[go_sem] theorem apartA_rr (l k a b : Nat) : apartA (.ref l a) (.ref k b) = (l ≠ k) := by simp only [apartA, AV.obj, Option.some.injEq]; exact propext ⟨fun h e => h l rfl e.symm, fun h x e1 e2 => h (e1.trans e2.symm)⟩
@[go_sem] theorem apartA_rv (l k a b m i : Nat) (el : El) : apartA (.ref l a) (.vref el k m i b) = (l ≠ k) := by simp only [apartA, AV.obj, Option.some.injEq]; exact propext ⟨fun h e => h l rfl e.symm, fun h x e1 e2 => h (e1.trans e2.symm)⟩
@[go_sem] theorem apartA_vr (l k a b m i : Nat) (el : El) : apartA (.vref el l m i b) (.ref k a) = (l ≠ k) := by simp only [apartA, AV.obj, Option.some.injEq]; exact propext ⟨fun h e => h l rfl e.symm, fun h x e1 e2 => h (e1.trans e2.symm)⟩
section
variable {α β : Type} (a b c : α) (l m : List α) (f : α → β) (n : Nat)
theorem x_get0 : (a :: l)[0]? = some a := _root_.id rfl
theorem x_getS : (a :: l)[n + 1]? = l[n]? := _root_.id rfl
theorem x_set0 : (a :: l).set 0 b = b :: l := _root_.id rfl
theorem x_setS : (a :: l).set (n + 1) b = a :: l.set n b := _root_.id rfl
theorem x_getD0 : (a :: l).getD 0 b = a := _root_.id rfl
theorem x_getDS : (a :: l).getD (n + 1) b = l.getD n b := _root_.id rfl
theorem x_lenC : (a :: l).length = l.length + 1 := _root_.id rfl
theorem x_lenN : ([] : List α).length = 0 := _root_.id rfl
theorem x_drop0 : l.drop 0 = l := _root_.id rfl
theorem x_dropS : (a :: l).drop (n + 1) = l.drop n := _root_.id rfl
theorem x_take0 : l.take 0 = [] := _root_.id rfl
theorem x_takeS : (a :: l).take (n + 1) = a :: l.take n := _root_.id rfl
theorem x_mapC : (a :: l).map f = f a :: l.map f := _root_.id rfl
theorem x_mapN : ([] : List α).map f = [] := _root_.id rfl
theorem x_appC : (a :: l) ++ m = a :: (l ++ m) := _root_.id rfl
theorem x_appN : [] ++ m = m := _root_.id rfl
theorem x_appE : l ++ [] = l := List.append_nil l
theorem x_rep0 : List.replicate 0 a = [] := _root_.id rfl
theorem x_repS : List.replicate (n + 1) a = a :: List.replicate n a := _root_.id rfl
end
theorem x_many0 (cs : List AV) (i : Nat) : setMany cs i [] = cs := by cases cs <;> exact _root_.id rfl
theorem x_manyS (cs : List AV) (i : Nat) (a : AV) (l : List AV) : setMany cs i (a :: l) = setMany (cs.set i a) (i + 1) l := by cases cs <;> exact _root_.id rfl
theorem x_cellsA (cs : List AV) : (AV.agg cs).cells = cs := _root_.id rfl
theorem x_cellsI (k : IntKind) (n : Int) : (AV.int k n).cells = [.int k n] := _root_.id rfl
theorem x_cellsB (b : Bool) : (AV.bool b).cells = [.bool b] := _root_.id rfl
theorem x_cellsS (s : List UInt8) : (AV.str s).cells = [.str s] := _root_.id rfl
theorem x_cellsL (f : Bool) (el : El) (xs : List AV) : (AV.lst f el xs).cells = [.lst f el xs] := _root_.id rfl
theorem x_cellsN : AV.nils.cells = [.nils] := _root_.id rfl
theorem x_cellsO (el : El) (l m lo n : Nat) : (AV.own el l m lo n).cells = [.own el l m lo n] := _root_.id rfl
theorem x_cellsR (l o : Nat) : (AV.ref l o).cells = [.ref l o] := _root_.id rfl
theorem x_cellsP : AV.nilp.cells = [.nilp] := _root_.id rfl
theorem x_cellsF (f : Fn) (a b : List AV) : (AV.fn f a b).cells = [.fn f a b] := _root_.id rfl
theorem x_nil1 (l o : Nat) : nilEq .p (.ref l o) .nilp = some false := _root_.id rfl
theorem x_nil2 : nilEq .p .nilp .nilp = some true := _root_.id rfl
theorem x_nil3 (el : El) (x : AV) (o : Nat) : nilEq .p (.eref el x o) .nilp = some false := _root_.id rfl
theorem x_contC (n m : Nat) (l : List Nat) : (n :: l).contains m = (m == n || l.contains m) := List.contains_cons
theorem x_contN (m : Nat) : ([] : List Nat).contains m = false := _root_.id rfl
theorem boolbeq1 : (true == false) = false := _root_.id rfl
theorem boolbeq2 : (false == true) = false := _root_.id rfl
theorem eBytes_nil : (([] : List UInt8).map fun b => AV.int .u8 b.toNat) = [] := _root_.id rfl
theorem getD_map {α : Type} [Inhabited α] (f : α → AV) (l : List α) (i : Nat) (h : i < l.length) : (l.map f).getD i .undef = f (l.getD i default) := by
  rw [List.getD_eq_getElem?_getD, List.getD_eq_getElem?_getD, List.getElem?_map, List.getElem?_eq_getElem h]; rfl
section
variable (e : Env) (σ : Store) (K Kp : AV → Store → Prop)
def rngT (x : AV) (σ : Store) {K : AV → Store → Prop} (_ : Tg K) : Prop := match x with
  | .str s => K (.ref σ.length 0) (σ ++ [.siter s 0])
  | _ => False
@[go_sem ↓] theorem run_rngS (x : AX) : AOp.run P (.rngS x) e σ K Kp = rngT (x.ev e) σ (.mk : Tg K) := by
  simp only [AOp.run, rngT]; rfl
@[go_sem] theorem rngT_s (s : List UInt8) : rngT (.str s) σ (.mk : Tg K) = K (.ref σ.length 0) (σ ++ [.siter s 0]) := _root_.id rfl
def nxtT (x : AV) (σ : Store) {K : AV → Store → Prop} (_ : Tg K) : Prop := match x with
  | .ref l 0 => match σ[l]? with
    | some (.siter s pos) =>
      if pos < s.length then K (.tup [.bool true, .int .i64 pos, .int .i32 (Utf8.decode ⟨s.toArray⟩ pos).1]) (σ.set l (.siter s (pos + (Utf8.decode ⟨s.toArray⟩ pos).2)))
      else K (.tup [.bool false]) σ
    | _ => False
  | _ => False
@[go_sem ↓] theorem run_nxtS (x : AX) : AOp.run P (.nxtS x) e σ K Kp = nxtT (x.ev e) σ (.mk : Tg K) := by
  simp only [AOp.run, nxtT]; rfl
def nxtO (o : Option AObj) (l : Nat) (σ : Store) {K : AV → Store → Prop} (_ : Tg K) : Prop := match o with
    | some (.siter s pos) =>
      if pos < s.length then K (.tup [.bool true, .int .i64 pos, .int .i32 (Utf8.decode ⟨s.toArray⟩ pos).1]) (σ.set l (.siter s (pos + (Utf8.decode ⟨s.toArray⟩ pos).2)))
      else K (.tup [.bool false]) σ
    | _ => False
@[go_sem] theorem nxtT_r (l : Nat) : nxtT (.ref l 0) σ (.mk : Tg K) = nxtO (σ[l]?) l σ (.mk : Tg K) := by
  simp only [nxtT, nxtO]
@[go_sem] theorem nxtO_end (l : Nat) (s : List UInt8) (pos : Nat) (h : s.length ≤ pos) : nxtO (some (.siter s pos)) l σ (.mk : Tg K) = K (.tup [.bool false]) σ := by
  simp only [nxtO]; rw [if_neg (by omega)]
theorem nxtO_on (l : Nat) (s : List UInt8) (pos : Nat) (h : pos < s.length) : nxtO (some (.siter s pos)) l σ (.mk : Tg K) =
    K (.tup [.bool true, .int .i64 pos, .int .i32 (Utf8.decode ⟨s.toArray⟩ pos).1]) (σ.set l (.siter s (pos + (Utf8.decode ⟨s.toArray⟩ pos).2))) := by
  simp only [nxtO]; rw [if_pos h]
@[go_sem] theorem nxtO_ascii (l : Nat) (s : List UInt8) (pos : Nat) (h : pos < s.length) (ha : (s.getD pos 0).toNat < 128) : nxtO (some (.siter s pos)) l σ (.mk : Tg K) =
    K (.tup [.bool true, .int .i64 pos, .int .i32 (s.getD pos 0).toNat]) (σ.set l (.siter s (pos + 1))) := by
  rw [nxtO_on _ _ _ _ _ h, decode_ascii h ha]
@[go_sem] theorem nxtO_wide (l : Nat) (s : List UInt8) (pos : Nat) (h : pos < s.length) (ha : 128 ≤ (s.getD pos 0).toNat) : nxtO (some (.siter s pos)) l σ (.mk : Tg K) =
    K (.tup [.bool true, .int .i64 pos, .int .i32 (wideRune s pos : Nat)]) (σ.set l (.siter s (pos + (Utf8.decode ⟨s.toArray⟩ pos).2))) := by
  rw [nxtO_on _ _ _ _ _ h]; rfl
end
def WpR (P : Program) (c : ACode) (rs : List ARes) (args : List AV) (σ : Store) (R : Out → Store → Prop) : Prop :=
  ∀ Q : AQ, (∀ e σ, Q .ret e σ = resA e σ rs fun vs => R (.ret (oneOf vs)) σ) → (∀ e σ, Q .normal e σ = resA e σ rs fun vs => R (.ret (oneOf vs)) σ) → (∀ v e σ, Q (.panic v) e σ = R (.panic v) σ) → wpA P c Q (envOf args) σ
theorem WpR.go {c : ACode} {rs : List ARes} {args : List AV} {σ : Store} {R : Out → Store → Prop} (h : WpR P c rs args σ R) : wpA P c (retQ rs R) (envOf args) σ :=
  h _ (fun _ _ => rfl) (fun _ _ => rfl) (fun _ _ _ => rfl)
@[go_sem ↓] theorem resA_cell (e : Env) (σ : Store) (t : Nat) (ag : Bool) (n : Nat) (r : List ARes) (K : List AV → Prop) : resA e σ (.cell t ag n :: r) K = loadT σ ag n (e t) (.mk : Tg fun v => bindV v (.mk : Tg fun v => resA e σ r fun vs => K (v :: vs))) := _root_.id rfl
theorem req_d {p K : Prop} (h : p) (hk : K) : req p (.mk : Tg K) := ⟨h, fun _ => hk⟩
theorem View.eqv {σ : Store} {a b : AV} (h : a = b) (hp : b.pur = true) : View σ a b := by subst h; exact .refl _ hp
theorem leafE {σ : Store} {v r : AV} (h : v = r) (hp : r.pur = true) : ∃ r0, Out.ret (oneOf [v]) = Out.ret r0 ∧ View σ r0 r := ⟨_, rfl, .eqv h hp⟩
end Go.AM
namespace Go.AM
variable {P : Program}
@[go_sem ↓] theorem outK_ret (K Kp : AV → Store → Prop) (r : AV) (σ : Store) : outK K Kp (.ret r) σ = K r σ := _root_.id rfl
@[go_sem ↓] theorem outK_panic (K Kp : AV → Store → Prop) (r : AV) (σ : Store) : outK K Kp (.panic r) σ = Kp r σ := _root_.id rfl
@[go_sem ↓] theorem putArgs_cons (p : Nat) (ps : List Nat) (a : AV) (az : List AV) (e : Env) : putArgs (p :: ps) (a :: az) e = putArgs ps az (upd e (some p) a) := _root_.id rfl
@[go_sem ↓] theorem putArgs_nil (e : Env) : putArgs [] [] e = e := _root_.id rfl
@[go_sem ↓] theorem asgQ_normal (l : Nat) (o o' : AObj) (B : Env → Store → Prop) (e : Env) (σ : Store) : asgQ l o o' B .normal e σ = req (σ[l]? = some o) (.mk : Tg (B e (σ.set l o'))) := and_req _ _
@[go_sem ↓] theorem rndQ_normal (l : Nat) (o : LoopState → Option Code → AObj) (R : Out → Store → Prop) (e : Env) (σ : Store) : rndQ l o R .normal e σ = req (σ[l]? = some (o .busy none)) (.mk : Tg (R (.ret (.bool true)) (σ.set l (o .ready none)))) := and_req _ _
@[go_sem ↓] theorem rndQ_ret (l : Nat) (o : LoopState → Option Code → AObj) (R : Out → Store → Prop) (e : Env) (σ : Store) : rndQ l o R .ret e σ = req (σ[l]? = some (o .busy none)) (.mk : Tg (R (.ret (.bool false)) (σ.set l (o .done (some .ret))))) := and_req _ _
@[go_sem ↓] theorem rndQ_exit (l i : Nat) (o : LoopState → Option Code → AObj) (R : Out → Store → Prop) (e : Env) (σ : Store) : rndQ l o R (.exit i) e σ = req (σ[l]? = some (o .busy none)) (.mk : Tg (R (.ret (.bool false)) (σ.set l (o .done (some (.exit i)))))) := and_req _ _
@[go_sem] theorem op_b2s_one {f : Bool} {σ : Store} {K Kp : AV → Store → Prop} (x : UInt8) : opT P (.b2s (.c (.lst f ⟨false, 1⟩ [.int .u8 x.toNat]))) σ (.mk : Tg (K, Kp)) = K (.str [x]) σ := op_b2s_lst σ K Kp f [x]
section
variable {σ : Store} {K Kp : AV → Store → Prop} {l m n lo off : Nat} {cs xs : List AV} {el : El} {T : Option TypeId}
theorem usd_nil (el : El) : opT P (.usd el (.c .nils)) σ (.mk : Tg (K, Kp)) = K .nilp σ := _root_.id rfl
theorem ustr_nil (t : TypeId) : opT P (.ustr t (.c .nilp) (.c (.int .i64 0))) σ (.mk : Tg (K, Kp)) = K (.str []) σ := op_ustr_nil _ _ _ t
attribute [go_sem] usd_nil ustr_nil
end
@[go_sem] theorem partT_fs (sz off : Nat) (cs : List AV) (K : AV → Prop) : partT false ⟨true, sz⟩ (.agg cs) off false 1 (.mk : Tg K) = req (off + 1 ≤ sz) (.mk : Tg (K (cs.getD off .undef))) := by
  rw [partT_f _ _ _ _ _ (by simp)]; simp [req]
section
variable {α : Type} (ρ τ : List α) (c d x : α)
@[go_sem] theorem getApp0 : (ρ ++ c :: τ)[ρ.length]? = some c := by simp
@[go_sem] theorem getApp1 : (ρ ++ c :: d :: τ)[ρ.length + 1]? = some d := by rw [List.getElem?_append_right (by omega)]; simp
@[go_sem] theorem setApp0 : (ρ ++ c :: τ).set ρ.length x = ρ ++ x :: τ := by simp
@[go_sem] theorem setApp1 : (ρ ++ c :: d :: τ).set (ρ.length + 1) x = ρ ++ c :: x :: τ := by rw [List.set_append_right _ _ (by omega)]; simp
end
def methT (P : Program) (n : FuncId) (args : List AV) (σ : Store) {K : AV → Store → Prop} (_ : Tg K) : Prop := methA P n args σ K
def methF (P : Program) (f : AV) (args : List AV) (σ : Store) {K : AV → Store → Prop} (_ : Tg K) : Prop := match f with
  | .fn (.func n) [] [] => methA P n args σ K
  | _ => False
@[go_sem ↓] theorem run_meth {e : Env} {σ : Store} {K Kp : AV → Store → Prop} (f : AX) (args : List AX) : AOp.run P (.meth f args) e σ K Kp = methF P (f.ev e) (args.map (AX.ev e)) σ (.mk : Tg K) := _root_.id rfl
@[go_sem] theorem methF_f {σ : Store} {K : AV → Store → Prop} (n : FuncId) (args : List AV) : methF P (.fn (.func n) [] []) args σ (.mk : Tg K) = methT P n args σ (.mk : Tg K) := _root_.id rfl
attribute [go_sem] Int.tdiv_eq_ediv_of_nonneg Int.tmod_eq_emod_of_nonneg x_get0 x_getS x_set0 x_setS x_getD0 x_getDS x_lenC x_lenN x_drop0 x_dropS x_take0 x_takeS x_mapC x_mapN x_appC x_appN x_appE x_rep0 x_repS x_many0 x_manyS x_cellsA x_cellsI x_cellsB x_cellsS x_cellsL x_cellsN x_cellsO x_cellsR x_cellsP x_cellsF x_nil1 x_nil2 x_nil3 x_contC x_contN boolbeq1 boolbeq2 getD_map eBytes_nil take_one Bool.or_false Bool.or_true Bool.true_or Bool.false_or beq_self_eq_true Bool.and_true Bool.true_and Bool.and_false Bool.false_and Int.toNat_natCast Int.toNat_natCast_add_one Int.toNat_zero List.length_map List.length_append Nat.zero_add Bool.not_true Bool.not_false
attribute [simp] AV.fits AV.scalar AV.cells apartAll apartA AV.obj roomOk
end Go.AM
namespace Go.AM
variable {P : Program}
theorem ab_ {p : Prop} (h : False := by first | omega | (simp_all; done) | (simp_all; omega)) : p := h.elim
theorem at_ {p : Prop} (h : p := by simp (disch := omega) only [at_nil, at_cons, and_true, go_sem, wrapK_i64, wrapK_u8, wrapK_u64, Nat.reduceAdd, Nat.reduceBEq, ↓reduceIte, Int.natCast_add, Int.cast_ofNat_Int] <;> (try trivial) <;> (try omega) <;> (try (repeat (first | trivial | (refine And.intro ?_ ?_) | (congr 1; omega))))) : p := h
theorem ou_ {p : Prop} (h : p := by repeat (first | exact out_ovl _ _ _ | refine out_upd rfl ?_ | refine out_ovl2 rfl ?_ | (simp only [puts_cons, puts_nil]))) : p := h
theorem vw_ {p : Prop} (h : p := by first | exact ViewL.refl (by simp) | (repeat (first | exact ViewL.nil _ | refine ViewL.cons ?_ ?_ | exact View.nils _ | exact View.refl _ (by simp) | exact View.weak _ _ _ (by simp) | exact View.cell _ _ rfl rfl (by simp) | refine View.fnL ?_ ?_ | exact View.vec rfl (by simp) (by simp) (by simp) | refine View.lstL ?_ | refine View.agg' ?_))) : p := h
theorem bs_ {K : AV → Prop} {xs : List AV} {m n : Nat} {s : List UInt8} (hk : K (.str s)) (hx : xs = s.map fun b => AV.int .u8 b.toNat) (hm : m = xs.length) (hn : n = xs.length) : b2sO (some (.vec ⟨false, 1⟩ xs)) m 0 n (.mk : Tg K) := b2sO_whole s hx hm hn hk
theorem go_ {G K : Prop} (k : K) (h : K → G := by
    first
    | (intro k; simp (disch := omega) only [go_sem, hQr, hQn, hQp, wrapK_i64, wrapK_u8, wrapK_u64, Nat.reduceAdd, Nat.reduceBEq, ↓reduceIte]; exact k)
    | (intro k; with_reducible refine req_d ?_ k; first | omega | (simp; done) | (simp; omega) | assumption)
    | (intro k; with_reducible exact scope_no k)
    | (intro k; with_reducible exact bs_ k rfl (by simp) (by simp))) : G := h k
theorem cc_ {t : Bool} {T E p q : Prop} (h : p → T) (h' : q → E) (hp : (t = true) = p) (hq : (t = false) = q) : condA (.bool t) (.mk : Tg (T, E)) := by
  subst hp hq; exact condA_i h h'
theorem gk_ {t b : Bool} {T E U p q : Prop} (h : p → T) (h' : q → E) (hp : (t = b) = p) (hq : (t = !b) = q) : guardK (.bool t) b (.mk : Tg (T, E, U)) := by
  subst hp hq; exact guardK_i h h'
theorem br_ {p q T E G : Prop} (h : p → T) (h' : q → E) (hg : (p → T) → (q → E) → G := by
    intro h h'
    with_reducible first | refine cc_ h h' ?_ ?_ | refine gk_ h h' ?_ ?_
    all_goals
      (try simp only [decide_eq_true_eq, decide_eq_false_iff_not, beq_iff_eq, beq_eq_false_iff_ne, Bool.not_eq_true', Bool.not_eq_false', Bool.not_true, Bool.not_false, Int.not_lt, Int.not_le, ne_eq, Int.ofNat_lt, Int.ofNat_le, not_true_eq_false, reduceCtorEq, Int.toNat_zero])
      exact rfl) : G := hg h h'
theorem cf_ {n : FuncId} {args : List AV} {r : AV} {K G : Prop} (h : CallF P n args r) (k : K) (hg : CallF P n args r → K → G := by
    intro h k; with_reducible first | exact callL_f h k | exact callD_f h k) : G := hg h k
theorem cv_ {n : FuncId} {args : List AV} {r : AV} {K G : Prop} (h : CallF P n args r) (k : K) (hg : CallF P n args r → K → G := by
    intro h k; with_reducible first | refine callL_v h ?_ ?_ k | refine callD_v h ?_ ?_ k
    · exact vw_
    · simp [AV.flat, AV.flatL]) : G := hg h k
end Go.AM
namespace Go.Proofs.YtophdhenjdlbeaaGreatDoor
open Go.AM
abbrev Str := List UInt8
structure Val where
  kind : Int
  n : Int
  s : Str
deriving DecidableEq, Inhabited
structure Tok where
  kind : Int
  s : Str
  n : Int
  pos : Int
deriving DecidableEq, Inhabited
inductive Expr where
  | mk (op : Int) (v : Val) (s : Str) (l : List Expr)
instance : Inhabited Expr := ⟨.mk 0 ⟨0, 0, []⟩ [] []⟩
def Expr.op : Expr → Int | .mk op _ _ _ => op
def Expr.v : Expr → Val | .mk _ v _ _ => v
def Expr.s : Expr → Str | .mk _ _ s _ => s
def Expr.l : Expr → List Expr | .mk _ _ _ l => l
structure Test where
  kind : Int
  a : Expr
  b : Expr
  lo : Bool
  hi : Bool
deriving Inhabited
structure Cell where
  any : Bool
  neg : Bool
  tests : List Test
deriving Inhabited
structure Col where
  name : Str
  kind : Int
  order : List Val
deriving Inhabited
structure Rule where
  cells : List Str
  outs : List Str
deriving Inhabited
structure Table where
  name : Str
  ins : List Col
  outs : List Col
  policy : Int
  agg : Int
  rules : List Rule
deriving Inhabited
structure Line where
  cells : List Cell
  outs : List Expr
deriving Inhabited
structure Ready where
  table : Table
  lines : List Line
deriving Inhabited
abbrev I (n : Int) : AV := .int .i64 n
abbrev E1 : El := ⟨false, 1⟩
abbrev EV : El := ⟨true, 3⟩
abbrev ET : El := ⟨true, 4⟩
abbrev EX : El := ⟨true, 6⟩
abbrev ES : El := ⟨true, 15⟩
abbrev EC : El := ⟨true, 3⟩
abbrev ER : El := ⟨true, 2⟩
def eVal (v : Val) : AV := .agg [I v.kind, I v.n, .str v.s]
def eTok (t : Tok) : AV := .agg [I t.kind, .str t.s, I t.n, I t.pos]
def eStr (s : Str) : AV := .str s
def eExpr : Expr → AV
  | .mk op v s l => .agg [I op, I v.kind, I v.n, .str v.s, .str s, .lst false EX (l.map eExpr)]
def eExprs (l : List Expr) : AV := .lst false EX (l.map eExpr)
def eTest (t : Test) : AV := .agg [I t.kind, I t.a.op, I t.a.v.kind, I t.a.v.n, .str t.a.v.s, .str t.a.s, eExprs t.a.l, I t.b.op, I t.b.v.kind, I t.b.v.n, .str t.b.v.s, .str t.b.s, eExprs t.b.l, .bool t.lo, .bool t.hi]
def eTests (l : List Test) : AV := .lst false ES (l.map eTest)
def eCell (c : Cell) : AV := .agg [.bool c.any, .bool c.neg, eTests c.tests]
def eVals (l : List Val) : AV := .lst false EV (l.map eVal)
def eToks (l : List Tok) : AV := .lst false ET (l.map eTok)
def eStrs (l : List Str) : AV := .lst false E1 (l.map eStr)
def eCol (c : Col) : AV := .agg [.str c.name, I c.kind, eVals c.order]
def eCols (l : List Col) : AV := .lst false EC (l.map eCol)
def eRule (r : Rule) : AV := .agg [eStrs r.cells, eStrs r.outs]
def eRules (l : List Rule) : AV := .lst false ER (l.map eRule)
def cTable (t : Table) : List AV := [.str t.name, eCols t.ins, eCols t.outs, I t.policy, I t.agg, eRules t.rules]
def eTable (t : Table) : AV := .agg (cTable t)
def eCells (l : List Cell) : AV := .lst false EC (l.map eCell)
def eLine (l : Line) : AV := .agg [eCells l.cells, eExprs l.outs]
def eLines (l : List Line) : AV := .lst false ER (l.map eLine)
def eReady (r : Ready) : AV := .agg [.str r.table.name, eCols r.table.ins, eCols r.table.outs, I r.table.policy, I r.table.agg, eRules r.table.rules, eLines r.lines]
theorem eExpr_eq (x : Expr) : eExpr x = .agg [I x.op, I x.v.kind, I x.v.n, .str x.v.s, .str x.s, .lst false EX (x.l.map eExpr)] := by
  cases x; simp only [eExpr]; rfl
theorem Expr.eta (x : Expr) : Expr.mk x.op ⟨x.v.kind, x.v.n, x.v.s⟩ x.s x.l = x := by cases x; rfl
theorem Expr.ind {C : Expr → Prop} (h : ∀ op v s l, (∀ y ∈ l, C y) → C (.mk op v s l)) : ∀ x, C x
  | .mk op v s l => h op v s l fun y _ => Expr.ind h y
attribute [go_sem] eExpr_eq eVal eTok eTest eCell eCol eRule cTable eTable eLine eReady eStr eExprs eTests eVals eToks eStrs eCols eRules eCells eLines
@[go_sem] theorem Expr.op_mk (op : Int) (v : Val) (s : Str) (l : List Expr) : (Expr.mk op v s l).op = op := _root_.id rfl
@[go_sem] theorem Expr.v_mk (op : Int) (v : Val) (s : Str) (l : List Expr) : (Expr.mk op v s l).v = v := _root_.id rfl
@[go_sem] theorem Expr.s_mk (op : Int) (v : Val) (s : Str) (l : List Expr) : (Expr.mk op v s l).s = s := _root_.id rfl
@[go_sem] theorem Expr.l_mk (op : Int) (v : Val) (s : Str) (l : List Expr) : (Expr.mk op v s l).l = l := _root_.id rfl
attribute [go_sem] Expr.eta
theorem pur_eVal (v : Val) : (eVal v).pur = true := rfl
theorem pur_eTok (t : Tok) : (eTok t).pur = true := rfl
theorem pur_eExpr (x : Expr) : (eExpr x).pur = true := by
  induction x using Expr.ind with
  | h op v s l ih =>
    simp only [eExpr, AV.pur, AV.purL, Bool.true_and, Bool.and_true]
    rw [purL_iff]; intro a ha
    obtain ⟨y, hy, rfl⟩ := List.mem_map.1 ha
    exact ih y hy
theorem pur_eExprs (l : List Expr) : (eExprs l).pur = true := by simp only [eExprs, AV.pur]; exact purL_map _ _ pur_eExpr
theorem pur_eTest (t : Test) : (eTest t).pur = true := by simp [eTest, AV.pur, AV.purL, pur_eExprs]
theorem pur_eTests (l : List Test) : (eTests l).pur = true := by simp only [eTests, AV.pur]; exact purL_map _ _ pur_eTest
theorem pur_eCell (c : Cell) : (eCell c).pur = true := by simp [eCell, AV.pur, AV.purL, pur_eTests]
theorem pur_eVals (l : List Val) : (eVals l).pur = true := by simp only [eVals, AV.pur]; exact purL_map _ _ pur_eVal
theorem pur_eToks (l : List Tok) : (eToks l).pur = true := by simp only [eToks, AV.pur]; exact purL_map _ _ pur_eTok
theorem pur_eStrs (l : List Str) : (eStrs l).pur = true := by simp only [eStrs, AV.pur]; exact purL_map _ _ (fun _ => rfl)
theorem pur_eCol (c : Col) : (eCol c).pur = true := by simp [eCol, AV.pur, AV.purL, pur_eVals]
theorem pur_eCols (l : List Col) : (eCols l).pur = true := by simp only [eCols, AV.pur]; exact purL_map _ _ pur_eCol
theorem pur_eRule (r : Rule) : (eRule r).pur = true := by simp [eRule, AV.pur, AV.purL, pur_eStrs]
theorem pur_eRules (l : List Rule) : (eRules l).pur = true := by simp only [eRules, AV.pur]; exact purL_map _ _ pur_eRule
theorem pur_eTable (t : Table) : (eTable t).pur = true := by simp [eTable, cTable, AV.pur, AV.purL, pur_eCols, pur_eRules]
theorem pur_eCells (l : List Cell) : (eCells l).pur = true := by simp only [eCells, AV.pur]; exact purL_map _ _ pur_eCell
theorem pur_eLine (l : Line) : (eLine l).pur = true := by simp [eLine, AV.pur, AV.purL, pur_eCells, pur_eExprs]
theorem pur_eLines (l : List Line) : (eLines l).pur = true := by simp only [eLines, AV.pur]; exact purL_map _ _ pur_eLine
theorem pur_eReady (r : Ready) : (eReady r).pur = true := by simp [eReady, AV.pur, AV.purL, pur_eCols, pur_eRules, pur_eLines]
theorem purL_x (l : List Expr) : AV.purL (l.map eExpr) = true := purL_map _ _ pur_eExpr
theorem purL_v (l : List Val) : AV.purL (l.map eVal) = true := purL_map _ _ pur_eVal
theorem purL_t (l : List Tok) : AV.purL (l.map eTok) = true := purL_map _ _ pur_eTok
theorem purL_s (l : List Str) : AV.purL (l.map eStr) = true := purL_map _ _ (fun _ => rfl)
theorem purL_test (l : List Test) : AV.purL (l.map eTest) = true := purL_map _ _ pur_eTest
theorem purL_cell (l : List Cell) : AV.purL (l.map eCell) = true := purL_map _ _ pur_eCell
theorem purL_col (l : List Col) : AV.purL (l.map eCol) = true := purL_map _ _ pur_eCol
theorem purL_rule (l : List Rule) : AV.purL (l.map eRule) = true := purL_map _ _ pur_eRule
theorem purL_line (l : List Line) : AV.purL (l.map eLine) = true := purL_map _ _ pur_eLine
attribute [simp] AV.pur AV.purL pur_eVal pur_eTok pur_eExpr pur_eExprs pur_eTest pur_eTests pur_eCell pur_eVals pur_eToks pur_eStrs pur_eCol pur_eCols pur_eRule pur_eRules pur_eTable pur_eCells pur_eLine pur_eLines pur_eReady purL_x purL_v purL_t purL_s purL_test purL_cell purL_col purL_rule purL_line
theorem getD_mem {α : Type} [Inhabited α] {l : List α} {i : Nat} (h : i < l.length) : l.getD i default ∈ l := by
  rw [List.getD_eq_getElem?_getD, List.getElem?_eq_getElem h]; exact List.getElem_mem h
end Go.Proofs.YtophdhenjdlbeaaGreatDoor
namespace Go.Proofs.YtophdhenjdlbeaaGreatDoor
open Go.AM
set_option maxRecDepth 10000
abbrev n_law28_DeskSame : FuncId := 3
abbrev n_law28_lives : FuncId := 4
abbrev n_desk_Same : FuncId := 5
abbrev n_ref28_Same : FuncId := 6
abbrev n_dtable_Same : FuncId := 11
abbrev n_slices_Equal_Named : FuncId := 12
abbrev n_slices_EqualFunc_Entry : FuncId := 13
abbrev n_entry_Same : FuncId := 14
abbrev n_ref18_Same : FuncId := 15
abbrev n_ref23_SameNamed : FuncId := 16
abbrev n_ref21_SameAll : FuncId := 17
abbrev n_slices_EqualFunc_Column : FuncId := 23
abbrev n_dtable_sameColumn : FuncId := 24
abbrev n_slices_EqualFunc_Rule : FuncId := 25
abbrev n_dtable_sameRule : FuncId := 26
abbrev n_slices_Equal_Value : FuncId := 27
abbrev n_hit_Same : FuncId := 28
abbrev n_ref01_SameTexts : FuncId := 29
abbrev n_ref18_sameColumns : FuncId := 30
abbrev n_ref21_Same : FuncId := 31
abbrev n_strings_Repeat : FuncId := 34
abbrev n_slices_Equal_string : FuncId := 38
abbrev n_slices_Equal_int : FuncId := 39
abbrev n_slices_EqualFunc_LValue : FuncId := 40
abbrev n_hit_Same_1 : FuncId := 41
abbrev n_ref12_SameRow : FuncId := 42
abbrev n_ref20_Same : FuncId := 43
abbrev n_ref01_SameInts : FuncId := 64
abbrev n_ref20_SameRows : FuncId := 65
abbrev n_strings_Compare : FuncId := 359
end Go.Proofs.YtophdhenjdlbeaaGreatDoor
