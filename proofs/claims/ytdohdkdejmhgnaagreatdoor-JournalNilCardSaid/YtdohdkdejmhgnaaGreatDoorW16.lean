/- Part of a proof: see Root. -/
import Derived.Test.YtdohdkdejmhgnaaGreatDoorW15
import Derived.Test.YtdohdkdejmhgnaaGreatDoorChecked
import Derived.KernelRfl
set_option linter.unnecessarySimpa false
set_option linter.unusedSectionVars false
set_option linter.unusedSimpArgs false
set_option linter.unusedVariables false
namespace Go.AM
variable {P : Program}
theorem wrapK_u8 {n : Int} (h : 0 ≤ n) (h' : n ≤ 255) : wrapK .u8 n = n := by
  show IntKind.wrap .u8 n = n
  simp [IntKind.wrap, IntKind.bits, IntKind.signed]; omega
theorem wrapK_u64 {n : Int} (h : 0 ≤ n) (h' : n < 18446744073709551616) : wrapK .u64 n = n := by
  show IntKind.wrap .u64 n = n
  simp [IntKind.wrap, IntKind.bits, IntKind.signed]; omega
theorem get_list {s : List UInt8} {i : Nat} (h : i < s.length) : (⟨s.toArray⟩ : ByteArray).get! i = s.getD i 0 := by
  simp only [ByteArray.get!]
  rw [getElem!_pos _ i (by simpa using h), List.getD_eq_getElem?_getD, List.getElem?_eq_getElem h]; simp
def wideRune (s : List UInt8) (pos : Nat) : Nat := (Utf8.decode ⟨s.toArray⟩ pos).1
theorem decode_ascii {s : List UInt8} {pos : Nat} (h : pos < s.length) (ha : (s.getD pos 0).toNat < 128) : Utf8.decode ⟨s.toArray⟩ pos = ((s.getD pos 0).toNat, 1) := by
  unfold Utf8.decode
  simp only [Nat.add_zero, get_list h]
  rw [if_pos ha]
theorem wideRune_ge {s : List UInt8} {pos : Nat} (h : pos < s.length) (ha : 128 ≤ (s.getD pos 0).toNat) : 128 ≤ wideRune s pos := by
  unfold wideRune Utf8.decode
  simp only [Nat.add_zero, get_list h]
  rw [if_neg (by omega)]
  have he : 128 ≤ Utf8.runeError := by decide
  split
  · split <;> first | assumption | exact he
  · split
    · split
      · rename_i h2; simp only [ge_iff_le, Bool.and_eq_true, decide_eq_true_eq] at h2; exact Nat.le_trans (by omega) h2.1
      · exact he
    · split
      · split
        · rename_i h2; simp only [ge_iff_le, Bool.and_eq_true, decide_eq_true_eq] at h2; exact Nat.le_trans (by omega) h2.1
        · exact he
      · exact he
noncomputable def bitsO : BinOp → IntKind → Int → Int → Int := Classical.choose (⟨bitsK, rfl⟩ : ∃ f, f = bitsK)
theorem bitsO_eq : bitsO = bitsK := Classical.choose_spec (⟨bitsK, rfl⟩ : ∃ f, f = bitsK)
section
variable (K : AV → Prop) (k : IntKind) (a b : Int) (s t : List UInt8)
@[go_sem] theorem binT_and : binT .and (.int k a) (.int k b) (.mk : Tg K) = K (.int k (bitsO .and k a b)) := by rw [bitsO_eq]; simp [binT, binA]
@[go_sem] theorem binT_or : binT .or (.int k a) (.int k b) (.mk : Tg K) = K (.int k (bitsO .or k a b)) := by rw [bitsO_eq]; simp [binT, binA]
@[go_sem] theorem binT_xor : binT .xor (.int k a) (.int k b) (.mk : Tg K) = K (.int k (bitsO .xor k a b)) := by rw [bitsO_eq]; simp [binT, binA]
@[go_sem] theorem binT_andNot : binT .andNot (.int k a) (.int k b) (.mk : Tg K) = K (.int k (bitsO .andNot k a b)) := by rw [bitsO_eq]; simp [binT, binA]
@[go_sem] theorem binT_shl (k' : IntKind) : binT .shl (.int k a) (.int k' b) (.mk : Tg K) = req (0 ≤ b) (.mk : Tg (K (.int k (wrapK k (a * 2 ^ (Nat.min b.toNat k.bits)))))) := by rw [← and_req]; simp [binT, binA]
@[go_sem] theorem binT_shr (k' : IntKind) : binT .shr (.int k a) (.int k' b) (.mk : Tg K) = req (0 ≤ b) (.mk : Tg (K (.int k (a.fdiv (2 ^ (Nat.min b.toNat k.bits)))))) := by rw [← and_req]; simp [binT, binA]
@[go_sem] theorem unT_neg : unT .neg (.int k a) (.mk : Tg K) = K (.int k (wrapK k (0 - a))) := _root_.id rfl
end
section
variable (σ : Store) (K Kp : AV → Store → Prop)
variable (k k' : IntKind) (a b : Int) (s t : List UInt8) (el : El) (xs cs : List AV) (l m lo n off i : Nat) (f : Bool)
def iaO (el : El) (o : Option AObj) (l m j : Nat) {K : AV → Prop} (_ : Tg K) : Prop := match o with
  | some (.vecT _ el'' xs) => el'' = el ∧ m = xs.length ∧ K (.vref el l m j 0)
  | _ => False
@[go_sem] theorem op_iaddr_own : opT P (.iaddr el none (.c (.own el l m lo n)) (.c (.int k a))) σ (.mk : Tg (K, Kp)) = req (0 ≤ a ∧ a < n) (.mk : Tg (iaO el (σ[l]?) l m (lo + a.toNat) (.mk : Tg fun v => K v σ))) := by
  rw [← and_req]; simp only [opT, AOp.run, AX.ev, iaO, true_and, and_assoc]; rfl
@[go_sem] theorem op_iaddr_arr_ref : opT P (.iaddr el (some n) (.c (.ref l i)) (.c (.int k a))) σ (.mk : Tg (K, Kp)) = req (0 ≤ a ∧ a < n) (.mk : Tg (K (.ref l (i + a.toNat * el.sz)) σ)) := by
  rw [← and_req]; simp only [opT, AOp.run, AX.ev, and_assoc]
def b2sO (o : Option AObj) (m lo n : Nat) {K : AV → Prop} (_ : Tg K) : Prop := match o with
  | some (.vecT _ el xs) => el = ⟨false, 1⟩ ∧ m = xs.length ∧ ∃ s : List UInt8, (xs.drop lo).take n = s.map (fun b => AV.int .u8 b.toNat) ∧ K (.str s)
  | _ => False
@[go_sem] theorem op_b2s_own : opT P (.b2s (.c (.own ⟨false, 1⟩ l m lo n))) σ (.mk : Tg (K, Kp)) = b2sO (σ[l]?) m lo n (.mk : Tg fun v => K v σ) := by
  simp only [opT, AOp.run, AX.ev, listA, b2sO, true_and]; rfl
theorem b2sO_whole {K : AV → Prop} {xs : List AV} {m n : Nat} (s : List UInt8) (hx : xs = s.map fun b => AV.int .u8 b.toNat) (hm : m = xs.length) (hn : n = xs.length) (hk : K (.str s)) : b2sO (some (.vec ⟨false, 1⟩ xs)) m 0 n (.mk : Tg K) :=
  ⟨rfl, hm, s, by rw [hn, ← hx]; simp, hk⟩
def kdsK (ng : Bool) (acc : Bool) (ks : List Kd) (xs ys : List AV) {K : AV → Prop} (_ : Tg K) : Prop := match kdsEq ks xs ys with
  | some c => K (.bool (if ng then !(acc && c) else acc && c))
  | none => False
theorem kdsK_nil (acc : Bool) (K : AV → Prop) : kdsK false acc [] [] [] (.mk : Tg K) = K (.bool acc) := by simp [kdsK, kdsEq]
theorem kdsK_cons (ng acc c : Bool) (kd : Kd) (x y : AV) (ks : List Kd) (xs ys : List AV) (K : AV → Prop) (h : kdEq kd x y = some c) : kdsK ng acc (kd :: ks) (x :: xs) (y :: ys) (.mk : Tg K) = kdsK ng (acc && c) ks xs ys (.mk : Tg K) := by
  simp only [kdsK, kdsEq, h]
  cases kdsEq ks xs ys <;> simp [Bool.and_assoc]
attribute [go_sem] kdsK_nil
@[go_sem] theorem kdsK_i (ng acc : Bool) (ks : List Kd) (xs ys : List AV) (K : AV → Prop) : kdsK ng acc (.i :: ks) (.int k a :: xs) (.int k b :: ys) (.mk : Tg K) = kdsK ng (acc && (a == b)) ks xs ys (.mk : Tg K) := kdsK_cons _ _ _ _ _ _ _ _ _ _ (by simp [kdEq])
@[go_sem] theorem kdsK_s (ng acc : Bool) (ks : List Kd) (xs ys : List AV) (K : AV → Prop) : kdsK ng acc (.s :: ks) (.str s :: xs) (.str t :: ys) (.mk : Tg K) = kdsK ng (acc && (s == t)) ks xs ys (.mk : Tg K) := kdsK_cons _ _ _ _ _ _ _ _ _ _ rfl
@[go_sem] theorem op_eqf_t2 (ng : Bool) (ks : List Kd) (xs ys : List AV) : opT P (.eqf ng true ks (.c (.agg xs)) (.c (.agg ys))) σ (.mk : Tg (K, Kp)) = kdsK ng true ks xs ys (.mk : Tg fun v => K v σ) := by
  rw [op_eqf_t]; simp only [kdsK]; cases kdsEq ks xs ys <;> simp
end
theorem scope_no {l : Nat} {c r : ACode} {Q : AQ} {e : Env} {σ : Store} (h : wpA P c (jumpQ l (fun _ _ => False) Q) e σ) : scopeK P (.mk : Tg (l, c, r, Q, e, σ)) :=
  ⟨fun _ _ _ => False, wpA_mono (fun ex e σ hq => by cases ex <;> first | exact hq | exact hq.2.elim) _ _ h, fun _ _ _ h => h.elim⟩
theorem out_ovl2 {ms ms' : List Nat} {r e e' : Env} (hs : ms'.all (fun t => ms.contains t) = true) (h : Out? ms e e') : Out? ms e (ovl ms' r e') := fun t ht => by
  simp only [ovl]
  split
  · rename_i h1
    rw [List.all_eq_true] at hs
    have := hs t (by simpa using h1)
    rw [ht] at this; cases this
  · exact h t ht
@[go_sem ↓] theorem apartAll_nil (e : Env) : apartAll [] e = True := _root_.id rfl
section
variable {α β : Type} (a b c : α) (l m : List α) (f : α → β) (n : Nat)
theorem x_get0 : (a :: l)[0]? = some a := _root_.id rfl
theorem x_getS : (a :: l)[n + 1]? = l[n]? := _root_.id rfl
theorem x_set0 : (a :: l).set 0 b = b :: l := _root_.id rfl
theorem x_setS : (a :: l).set (n + 1) b = a :: l.set n b := _root_.id rfl
theorem x_getD0 : (a :: l).getD 0 b = a := _root_.id rfl
theorem x_getDS : (a :: l).getD (n + 1) b = l.getD n b := _root_.id rfl
theorem x_lenC : (a :: l).length = l.length + 1 := _root_.id rfl
theorem x_lenN : ([] : List α).length = 0 := _root_.id rfl
theorem x_drop0 : l.drop 0 = l := _root_.id rfl
theorem x_take0 : l.take 0 = [] := _root_.id rfl
theorem x_takeS : (a :: l).take (n + 1) = a :: l.take n := _root_.id rfl
theorem x_mapC : (a :: l).map f = f a :: l.map f := _root_.id rfl
theorem x_mapN : ([] : List α).map f = [] := _root_.id rfl
theorem x_appC : (a :: l) ++ m = a :: (l ++ m) := _root_.id rfl
theorem x_appN : [] ++ m = m := _root_.id rfl
theorem x_appE : l ++ [] = l := List.append_nil l
theorem x_rep0 : List.replicate 0 a = [] := _root_.id rfl
theorem x_repS : List.replicate (n + 1) a = a :: List.replicate n a := _root_.id rfl
end
theorem x_many0 (cs : List AV) (i : Nat) : setMany cs i [] = cs := by cases cs <;> exact _root_.id rfl
theorem x_manyS (cs : List AV) (i : Nat) (a : AV) (l : List AV) : setMany cs i (a :: l) = setMany (cs.set i a) (i + 1) l := by cases cs <;> exact _root_.id rfl
theorem x_cellsA (cs : List AV) : (AV.agg cs).cells = cs := _root_.id rfl
theorem x_cellsS (s : List UInt8) : (AV.str s).cells = [.str s] := _root_.id rfl
theorem x_contC (n m : Nat) (l : List Nat) : (n :: l).contains m = (m == n || l.contains m) := List.contains_cons
theorem x_contN (m : Nat) : ([] : List Nat).contains m = false := _root_.id rfl
theorem boolbeq2 : (false == true) = false := _root_.id rfl
theorem getD_map {α : Type} [Inhabited α] (f : α → AV) (l : List α) (i : Nat) (h : i < l.length) : (l.map f).getD i .undef = f (l.getD i default) := by
  rw [List.getD_eq_getElem?_getD, List.getD_eq_getElem?_getD, List.getElem?_map, List.getElem?_eq_getElem h]; rfl
section
variable (e : Env) (σ : Store) (K Kp : AV → Store → Prop)
def rngT (x : AV) (σ : Store) {K : AV → Store → Prop} (_ : Tg K) : Prop := match x with
  | .str s => K (.ref σ.length 0) (σ ++ [.siter s 0])
  | _ => False
@[go_sem ↓] theorem run_rngS (x : AX) : AOp.run P (.rngS x) e σ K Kp = rngT (x.ev e) σ (.mk : Tg K) := by
  simp only [AOp.run, rngT]; rfl
@[go_sem] theorem rngT_s (s : List UInt8) : rngT (.str s) σ (.mk : Tg K) = K (.ref σ.length 0) (σ ++ [.siter s 0]) := _root_.id rfl
def nxtT (x : AV) (σ : Store) {K : AV → Store → Prop} (_ : Tg K) : Prop := match x with
  | .ref l 0 => match σ[l]? with
    | some (.siter s pos) =>
      if pos < s.length then K (.tup [.bool true, .int .i64 pos, .int .i32 (Utf8.decode ⟨s.toArray⟩ pos).1]) (σ.set l (.siter s (pos + (Utf8.decode ⟨s.toArray⟩ pos).2)))
      else K (.tup [.bool false]) σ
    | _ => False
  | _ => False
@[go_sem ↓] theorem run_nxtS (x : AX) : AOp.run P (.nxtS x) e σ K Kp = nxtT (x.ev e) σ (.mk : Tg K) := by
  simp only [AOp.run, nxtT]; rfl
def nxtO (o : Option AObj) (l : Nat) (σ : Store) {K : AV → Store → Prop} (_ : Tg K) : Prop := match o with
    | some (.siter s pos) =>
      if pos < s.length then K (.tup [.bool true, .int .i64 pos, .int .i32 (Utf8.decode ⟨s.toArray⟩ pos).1]) (σ.set l (.siter s (pos + (Utf8.decode ⟨s.toArray⟩ pos).2)))
      else K (.tup [.bool false]) σ
    | _ => False
@[go_sem] theorem nxtT_r (l : Nat) : nxtT (.ref l 0) σ (.mk : Tg K) = nxtO (σ[l]?) l σ (.mk : Tg K) := by
  simp only [nxtT, nxtO]
@[go_sem] theorem nxtO_end (l : Nat) (s : List UInt8) (pos : Nat) (h : s.length ≤ pos) : nxtO (some (.siter s pos)) l σ (.mk : Tg K) = K (.tup [.bool false]) σ := by
  simp only [nxtO]; rw [if_neg (by omega)]
theorem nxtO_on (l : Nat) (s : List UInt8) (pos : Nat) (h : pos < s.length) : nxtO (some (.siter s pos)) l σ (.mk : Tg K) =
    K (.tup [.bool true, .int .i64 pos, .int .i32 (Utf8.decode ⟨s.toArray⟩ pos).1]) (σ.set l (.siter s (pos + (Utf8.decode ⟨s.toArray⟩ pos).2))) := by
  simp only [nxtO]; rw [if_pos h]
@[go_sem] theorem nxtO_ascii (l : Nat) (s : List UInt8) (pos : Nat) (h : pos < s.length) (ha : (s.getD pos 0).toNat < 128) : nxtO (some (.siter s pos)) l σ (.mk : Tg K) =
    K (.tup [.bool true, .int .i64 pos, .int .i32 (s.getD pos 0).toNat]) (σ.set l (.siter s (pos + 1))) := by
  rw [nxtO_on _ _ _ _ _ h, decode_ascii h ha]
@[go_sem] theorem nxtO_wide (l : Nat) (s : List UInt8) (pos : Nat) (h : pos < s.length) (ha : 128 ≤ (s.getD pos 0).toNat) : nxtO (some (.siter s pos)) l σ (.mk : Tg K) =
    K (.tup [.bool true, .int .i64 pos, .int .i32 (wideRune s pos : Nat)]) (σ.set l (.siter s (pos + (Utf8.decode ⟨s.toArray⟩ pos).2))) := by
  rw [nxtO_on _ _ _ _ _ h]; rfl
end
def WpR (P : Program) (c : ACode) (rs : List ARes) (args : List AV) (σ : Store) (R : Out → Store → Prop) : Prop :=
  ∀ Q : AQ, (∀ e σ, Q .ret e σ = resA e σ rs fun vs => R (.ret (oneOf vs)) σ) → (∀ e σ, Q .normal e σ = resA e σ rs fun vs => R (.ret (oneOf vs)) σ) → (∀ v e σ, Q (.panic v) e σ = R (.panic v) σ) → wpA P c Q (envOf args) σ
theorem WpR.go {c : ACode} {rs : List ARes} {args : List AV} {σ : Store} {R : Out → Store → Prop} (h : WpR P c rs args σ R) : wpA P c (retQ rs R) (envOf args) σ :=
  h _ (fun _ _ => rfl) (fun _ _ => rfl) (fun _ _ _ => rfl)
theorem req_d {p K : Prop} (h : p) (hk : K) : req p (.mk : Tg K) := ⟨h, fun _ => hk⟩
theorem leafNE {σ : Store} {a b : AV} {vs rs : List AV} (h : a :: b :: vs = rs) (hp : AV.purL rs = true) : ∃ r0, Out.ret (oneOf (a :: b :: vs)) = Out.ret r0 ∧ View σ r0 (.tup rs) := ⟨_, rfl, by subst h; exact .refl _ hp⟩
theorem View.eqv {σ : Store} {a b : AV} (h : a = b) (hp : b.pur = true) : View σ a b := by subst h; exact .refl _ hp
theorem leafE {σ : Store} {v r : AV} (h : v = r) (hp : r.pur = true) : ∃ r0, Out.ret (oneOf [v]) = Out.ret r0 ∧ View σ r0 r := ⟨_, rfl, .eqv h hp⟩
end Go.AM
namespace Go.AM
variable {P : Program}
@[go_sem ↓] theorem outK_ret (K Kp : AV → Store → Prop) (r : AV) (σ : Store) : outK K Kp (.ret r) σ = K r σ := _root_.id rfl
section
variable {σ : Store} {K Kp : AV → Store → Prop} {l m n lo off : Nat} {cs xs : List AV} {el : El} {T : Option TypeId}
end
@[go_sem] theorem partT_fs (sz off : Nat) (cs : List AV) (K : AV → Prop) : partT false ⟨true, sz⟩ (.agg cs) off false 1 (.mk : Tg K) = req (off + 1 ≤ sz) (.mk : Tg (K (cs.getD off .undef))) := by
  rw [partT_f _ _ _ _ _ (by simp)]; simp [req]
section
variable {α : Type} (ρ τ : List α) (c d x : α)
@[go_sem] theorem getApp0 : (ρ ++ c :: τ)[ρ.length]? = some c := by simp
@[go_sem] theorem setApp0 : (ρ ++ c :: τ).set ρ.length x = ρ ++ x :: τ := by simp
end
attribute [go_sem] Int.tdiv_eq_ediv_of_nonneg Int.tmod_eq_emod_of_nonneg x_get0 x_getS x_set0 x_setS x_getD0 x_getDS x_lenC x_lenN x_drop0 x_take0 x_takeS x_mapC x_mapN x_appC x_appN x_appE x_rep0 x_repS x_many0 x_manyS x_cellsA x_cellsS x_contC x_contN boolbeq2 getD_map Bool.or_false Bool.or_true Bool.true_or Bool.false_or beq_self_eq_true Bool.and_true Bool.true_and Bool.and_false Bool.false_and Int.toNat_natCast Int.toNat_natCast_add_one Int.toNat_zero List.length_map List.length_append Nat.zero_add Bool.not_true Bool.not_false
attribute [simp] AV.fits AV.scalar AV.cells apartAll apartA AV.obj roomOk
end Go.AM
namespace Go.Proofs.YtdohdkdejmhgnaaGreatDoor
open Go.AM
set_option maxRecDepth 10000
abbrev n_law24_JournalNil : FuncId := 3
abbrev n_law21_E_Small : FuncId := 5
abbrev n_law24_lives : FuncId := 6
abbrev n_journal_Mark : FuncId := 7
abbrev n_journal_Add : FuncId := 8
abbrev n_journal_Get : FuncId := 9
abbrev n_journal_Range : FuncId := 10
abbrev n_journal_Texts : FuncId := 11
abbrev n_journal_Compact : FuncId := 12
abbrev n_journal_Verify : FuncId := 13
abbrev n_law16_Row_Few : FuncId := 21
abbrev n_entry_Bytes : FuncId := 30
abbrev n_chain_Push : FuncId := 31
abbrev n_chunk_Edits : FuncId := 32
abbrev n_journal_place : FuncId := 33
abbrev n_journal_put : FuncId := 34
abbrev n_lex_Name : FuncId := 45
abbrev n_octet_Num : FuncId := 55
abbrev n_strings_Repeat : FuncId := 75
abbrev n_entry_Check : FuncId := 79
abbrev n_entry_text : FuncId := 80
abbrev n_lex_word : FuncId := 97
abbrev n_lex_reserved : FuncId := 98
abbrev n_octet_Text : FuncId := 116
abbrev n_octet_code : FuncId := 121
abbrev n_octet_low_uint64 : FuncId := 122
abbrev n_strings_Compare : FuncId := 145
abbrev n_entry_right : FuncId := 156
abbrev n_entry_text_1 : FuncId := 157
abbrev n_value_Row : FuncId := 158
abbrev n_lex_letter : FuncId := 171
abbrev n_lex_run : FuncId := 172
abbrev n_lex_word_1 : FuncId := 173
abbrev n_lex_digit : FuncId := 174
abbrev n_slices_Insert_Pair : FuncId := 211
abbrev n_entry_rising : FuncId := 234
abbrev n_entry_plain : FuncId := 235
abbrev n_slices_ContainsFunc_LValue : FuncId := 236
abbrev n_entry_right_1 : FuncId := 237
abbrev n_value_Bytes : FuncId := 238
abbrev n_value_Check : FuncId := 274
abbrev n_slices_ContainsFunc_Value : FuncId := 315
abbrev n_entry_plain_1 : FuncId := 316
abbrev n_slices_IndexFunc_LValue : FuncId := 317
abbrev n_value_plain : FuncId := 354
abbrev n_slices_IndexFunc_Value : FuncId := 379
abbrev n_sha_rotr : FuncId := 381
abbrev n_seal_blank : FuncId := 410
abbrev n_math_bits_RotateLeft32 : FuncId := 420
abbrev n_crc_halves : FuncId := 454
abbrev n_crc_on : FuncId := 455
end Go.Proofs.YtdohdkdejmhgnaaGreatDoor
