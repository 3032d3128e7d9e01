/- Part of a proof: see Root. -/
import Derived.Test.YtnfendddolhcoaaGreatDoorW15
import Derived.Test.YtnfendddolhcoaaGreatDoorChecked
import Derived.KernelRfl
set_option linter.unnecessarySimpa false
set_option linter.unusedSectionVars false
set_option linter.unusedSimpArgs false
set_option linter.unusedVariables false
namespace Go.AM
variable {P : Program}
theorem wrapK_u8 {n : Int} (h : 0 ≤ n) (h' : n ≤ 255) : wrapK .u8 n = n := by
  show IntKind.wrap .u8 n = n
  simp [IntKind.wrap, IntKind.bits, IntKind.signed]; omega
theorem wrapK_u64 {n : Int} (h : 0 ≤ n) (h' : n < 18446744073709551616) : wrapK .u64 n = n := by
  show IntKind.wrap .u64 n = n
  simp [IntKind.wrap, IntKind.bits, IntKind.signed]; omega
noncomputable def bitsO : BinOp → IntKind → Int → Int → Int := Classical.choose (⟨bitsK, rfl⟩ : ∃ f, f = bitsK)
theorem bitsO_eq : bitsO = bitsK := Classical.choose_spec (⟨bitsK, rfl⟩ : ∃ f, f = bitsK)
section
variable (K : AV → Prop) (k : IntKind) (a b : Int) (s t : List UInt8)
@[go_sem] theorem binT_and : binT .and (.int k a) (.int k b) (.mk : Tg K) = K (.int k (bitsO .and k a b)) := by rw [bitsO_eq]; simp [binT, binA]
@[go_sem] theorem binT_or : binT .or (.int k a) (.int k b) (.mk : Tg K) = K (.int k (bitsO .or k a b)) := by rw [bitsO_eq]; simp [binT, binA]
@[go_sem] theorem binT_xor : binT .xor (.int k a) (.int k b) (.mk : Tg K) = K (.int k (bitsO .xor k a b)) := by rw [bitsO_eq]; simp [binT, binA]
@[go_sem] theorem binT_shl (k' : IntKind) : binT .shl (.int k a) (.int k' b) (.mk : Tg K) = req (0 ≤ b) (.mk : Tg (K (.int k (wrapK k (a * 2 ^ (Nat.min b.toNat k.bits)))))) := by rw [← and_req]; simp [binT, binA]
@[go_sem] theorem binT_shr (k' : IntKind) : binT .shr (.int k a) (.int k' b) (.mk : Tg K) = req (0 ≤ b) (.mk : Tg (K (.int k (a.fdiv (2 ^ (Nat.min b.toNat k.bits)))))) := by rw [← and_req]; simp [binT, binA]
@[go_sem] theorem unT_neg : unT .neg (.int k a) (.mk : Tg K) = K (.int k (wrapK k (0 - a))) := _root_.id rfl
end
section
variable (σ : Store) (K Kp : AV → Store → Prop)
variable (k k' : IntKind) (a b : Int) (s t : List UInt8) (el : El) (xs cs : List AV) (l m lo n off i : Nat) (f : Bool)
def iaO (el : El) (o : Option AObj) (l m j : Nat) {K : AV → Prop} (_ : Tg K) : Prop := match o with
  | some (.vecT _ el'' xs) => el'' = el ∧ m = xs.length ∧ K (.vref el l m j 0)
  | _ => False
@[go_sem] theorem op_iaddr_own : opT P (.iaddr el none (.c (.own el l m lo n)) (.c (.int k a))) σ (.mk : Tg (K, Kp)) = req (0 ≤ a ∧ a < n) (.mk : Tg (iaO el (σ[l]?) l m (lo + a.toNat) (.mk : Tg fun v => K v σ))) := by
  rw [← and_req]; simp only [opT, AOp.run, AX.ev, iaO, true_and, and_assoc]; rfl
@[go_sem] theorem op_iaddr_arr_ref : opT P (.iaddr el (some n) (.c (.ref l i)) (.c (.int k a))) σ (.mk : Tg (K, Kp)) = req (0 ≤ a ∧ a < n) (.mk : Tg (K (.ref l (i + a.toNat * el.sz)) σ)) := by
  rw [← and_req]; simp only [opT, AOp.run, AX.ev, and_assoc]
@[go_sem] theorem partT_g (off n : Nat) (cs : List AV) (K : AV → Prop) (h : (off == 0 && n == el.sz && true == el.ag) = false) : partT false el (.agg cs) off true n (.mk : Tg K) = req (off + n ≤ el.sz) (.mk : Tg (K (.agg ((cs.drop off).take n)))) := by
  have hn : ¬ (off = 0 ∧ n = el.sz ∧ true = el.ag) := by rintro ⟨h1, h2, h3⟩; subst h1; subst h2; rw [← h3] at h; simp at h
  rw [← and_req]; simp only [partT, partOf, if_neg hn, h, true_and]
  simp
def b2sO (o : Option AObj) (m lo n : Nat) {K : AV → Prop} (_ : Tg K) : Prop := match o with
  | some (.vecT _ el xs) => el = ⟨false, 1⟩ ∧ m = xs.length ∧ ∃ s : List UInt8, (xs.drop lo).take n = s.map (fun b => AV.int .u8 b.toNat) ∧ K (.str s)
  | _ => False
theorem b2sO_whole {K : AV → Prop} {xs : List AV} {m n : Nat} (s : List UInt8) (hx : xs = s.map fun b => AV.int .u8 b.toNat) (hm : m = xs.length) (hn : n = xs.length) (hk : K (.str s)) : b2sO (some (.vec ⟨false, 1⟩ xs)) m 0 n (.mk : Tg K) :=
  ⟨rfl, hm, s, by rw [hn, ← hx]; simp, hk⟩
def kdsK (ng : Bool) (acc : Bool) (ks : List Kd) (xs ys : List AV) {K : AV → Prop} (_ : Tg K) : Prop := match kdsEq ks xs ys with
  | some c => K (.bool (if ng then !(acc && c) else acc && c))
  | none => False
theorem kdsK_nil (acc : Bool) (K : AV → Prop) : kdsK false acc [] [] [] (.mk : Tg K) = K (.bool acc) := by simp [kdsK, kdsEq]
theorem kdsK_cons (ng acc c : Bool) (kd : Kd) (x y : AV) (ks : List Kd) (xs ys : List AV) (K : AV → Prop) (h : kdEq kd x y = some c) : kdsK ng acc (kd :: ks) (x :: xs) (y :: ys) (.mk : Tg K) = kdsK ng (acc && c) ks xs ys (.mk : Tg K) := by
  simp only [kdsK, kdsEq, h]
  cases kdsEq ks xs ys <;> simp [Bool.and_assoc]
attribute [go_sem] kdsK_nil
@[go_sem] theorem kdsK_i (ng acc : Bool) (ks : List Kd) (xs ys : List AV) (K : AV → Prop) : kdsK ng acc (.i :: ks) (.int k a :: xs) (.int k b :: ys) (.mk : Tg K) = kdsK ng (acc && (a == b)) ks xs ys (.mk : Tg K) := kdsK_cons _ _ _ _ _ _ _ _ _ _ (by simp [kdEq])
@[go_sem] theorem kdsK_s (ng acc : Bool) (ks : List Kd) (xs ys : List AV) (K : AV → Prop) : kdsK ng acc (.s :: ks) (.str s :: xs) (.str t :: ys) (.mk : Tg K) = kdsK ng (acc && (s == t)) ks xs ys (.mk : Tg K) := kdsK_cons _ _ _ _ _ _ _ _ _ _ rfl
@[go_sem] theorem op_eqf_t2 (ng : Bool) (ks : List Kd) (xs ys : List AV) : opT P (.eqf ng true ks (.c (.agg xs)) (.c (.agg ys))) σ (.mk : Tg (K, Kp)) = kdsK ng true ks xs ys (.mk : Tg fun v => K v σ) := by
  rw [op_eqf_t]; simp only [kdsK]; cases kdsEq ks xs ys <;> simp
def nilK (ng : Bool) (o : Option Bool) {K : AV → Prop} (_ : Tg K) : Prop := match o with
  | some c => K (.bool (if ng then !c else c))
  | none => False
@[go_sem] theorem nilK_f (c : Bool) (K : AV → Prop) : nilK false (some c) (.mk : Tg K) = K (.bool c) := _root_.id rfl
@[go_sem] theorem op_eqnil2 (ng : Bool) (kn : NK) (x y : AV) : opT P (.eqnil ng kn (.c x) (.c y)) σ (.mk : Tg (K, Kp)) = nilK ng (nilEq kn x y) (.mk : Tg fun v => K v σ) := by
  rw [op_eqnil]; rfl
end
theorem scope_no {l : Nat} {c r : ACode} {Q : AQ} {e : Env} {σ : Store} (h : wpA P c (jumpQ l (fun _ _ => False) Q) e σ) : scopeK P (.mk : Tg (l, c, r, Q, e, σ)) :=
  ⟨fun _ _ _ => False, wpA_mono (fun ex e σ hq => by cases ex <;> first | exact hq | exact hq.2.elim) _ _ h, fun _ _ _ h => h.elim⟩
theorem out_ovl2 {ms ms' : List Nat} {r e e' : Env} (hs : ms'.all (fun t => ms.contains t) = true) (h : Out? ms e e') : Out? ms e (ovl ms' r e') := fun t ht => by
  simp only [ovl]
  split
  · rename_i h1
    rw [List.all_eq_true] at hs
    have := hs t (by simpa using h1)
    rw [ht] at this; cases this
  · exact h t ht
section
variable {α β : Type} (a b c : α) (l m : List α) (f : α → β) (n : Nat)
theorem x_get0 : (a :: l)[0]? = some a := _root_.id rfl
theorem x_getS : (a :: l)[n + 1]? = l[n]? := _root_.id rfl
theorem x_set0 : (a :: l).set 0 b = b :: l := _root_.id rfl
theorem x_setS : (a :: l).set (n + 1) b = a :: l.set n b := _root_.id rfl
theorem x_getD0 : (a :: l).getD 0 b = a := _root_.id rfl
theorem x_getDS : (a :: l).getD (n + 1) b = l.getD n b := _root_.id rfl
theorem x_lenC : (a :: l).length = l.length + 1 := _root_.id rfl
theorem x_lenN : ([] : List α).length = 0 := _root_.id rfl
theorem x_drop0 : l.drop 0 = l := _root_.id rfl
theorem x_dropS : (a :: l).drop (n + 1) = l.drop n := _root_.id rfl
theorem x_take0 : l.take 0 = [] := _root_.id rfl
theorem x_takeS : (a :: l).take (n + 1) = a :: l.take n := _root_.id rfl
theorem x_mapC : (a :: l).map f = f a :: l.map f := _root_.id rfl
theorem x_mapN : ([] : List α).map f = [] := _root_.id rfl
theorem x_appC : (a :: l) ++ m = a :: (l ++ m) := _root_.id rfl
theorem x_appN : [] ++ m = m := _root_.id rfl
theorem x_appE : l ++ [] = l := List.append_nil l
theorem x_rep0 : List.replicate 0 a = [] := _root_.id rfl
theorem x_repS : List.replicate (n + 1) a = a :: List.replicate n a := _root_.id rfl
end
theorem x_many0 (cs : List AV) (i : Nat) : setMany cs i [] = cs := by cases cs <;> exact _root_.id rfl
theorem x_manyS (cs : List AV) (i : Nat) (a : AV) (l : List AV) : setMany cs i (a :: l) = setMany (cs.set i a) (i + 1) l := by cases cs <;> exact _root_.id rfl
theorem x_cellsA (cs : List AV) : (AV.agg cs).cells = cs := _root_.id rfl
theorem x_nil2 : nilEq .p .nilp .nilp = some true := _root_.id rfl
theorem x_contC (n m : Nat) (l : List Nat) : (n :: l).contains m = (m == n || l.contains m) := List.contains_cons
theorem x_contN (m : Nat) : ([] : List Nat).contains m = false := _root_.id rfl
theorem boolbeq2 : (false == true) = false := _root_.id rfl
theorem getD_map {α : Type} [Inhabited α] (f : α → AV) (l : List α) (i : Nat) (h : i < l.length) : (l.map f).getD i .undef = f (l.getD i default) := by
  rw [List.getD_eq_getElem?_getD, List.getD_eq_getElem?_getD, List.getElem?_map, List.getElem?_eq_getElem h]; rfl
section
variable (e : Env) (σ : Store) (K Kp : AV → Store → Prop)
def rngT (x : AV) (σ : Store) {K : AV → Store → Prop} (_ : Tg K) : Prop := match x with
  | .str s => K (.ref σ.length 0) (σ ++ [.siter s 0])
  | _ => False
end
def WpR (P : Program) (c : ACode) (rs : List ARes) (args : List AV) (σ : Store) (R : Out → Store → Prop) : Prop :=
  ∀ Q : AQ, (∀ e σ, Q .ret e σ = resA e σ rs fun vs => R (.ret (oneOf vs)) σ) → (∀ e σ, Q .normal e σ = resA e σ rs fun vs => R (.ret (oneOf vs)) σ) → (∀ v e σ, Q (.panic v) e σ = R (.panic v) σ) → wpA P c Q (envOf args) σ
theorem WpR.go {c : ACode} {rs : List ARes} {args : List AV} {σ : Store} {R : Out → Store → Prop} (h : WpR P c rs args σ R) : wpA P c (retQ rs R) (envOf args) σ :=
  h _ (fun _ _ => rfl) (fun _ _ => rfl) (fun _ _ _ => rfl)
theorem req_d {p K : Prop} (h : p) (hk : K) : req p (.mk : Tg K) := ⟨h, fun _ => hk⟩
theorem View.eqv {σ : Store} {a b : AV} (h : a = b) (hp : b.pur = true) : View σ a b := by subst h; exact .refl _ hp
theorem leafE {σ : Store} {v r : AV} (h : v = r) (hp : r.pur = true) : ∃ r0, Out.ret (oneOf [v]) = Out.ret r0 ∧ View σ r0 r := ⟨_, rfl, .eqv h hp⟩
end Go.AM
namespace Go.AM
variable {P : Program}
section
variable {σ : Store} {K Kp : AV → Store → Prop} {l m n lo off : Nat} {cs xs : List AV} {el : El} {T : Option TypeId}
end
@[go_sem] theorem partT_fs (sz off : Nat) (cs : List AV) (K : AV → Prop) : partT false ⟨true, sz⟩ (.agg cs) off false 1 (.mk : Tg K) = req (off + 1 ≤ sz) (.mk : Tg (K (cs.getD off .undef))) := by
  rw [partT_f _ _ _ _ _ (by simp)]; simp [req]
section
variable {α : Type} (ρ τ : List α) (c d x : α)
end
def methT (P : Program) (n : FuncId) (args : List AV) (σ : Store) {K : AV → Store → Prop} (_ : Tg K) : Prop := methA P n args σ K
theorem methT_m {n : FuncId} {k off : Nat} {args cs ds : List AV} {r : AV} {σ : Store} {K : AV → Store → Prop} (h : CallM P n off args cs ds r) (hσ : σ[k]? = some (.cells cs)) (hk : bindV r (.mk : Tg fun r => bindS (σ.set k (.cells ds)) (.mk : Tg fun σ => K r σ))) :
    methT P n (.ref k off :: args) σ (.mk : Tg K) := ⟨k, _, .cells ds, r, rfl, hσ, trivial, h σ k hσ, hk⟩
theorem callD_q {n : FuncId} {k off : Nat} {args cs : List AV} {r : AV} {σ : Store} {K Kp : AV → Store → Prop} (h : CallM P n off args cs cs r) (hσ : σ[k]? = some (.cells cs)) (hk : bindV r (.mk : Tg fun r => K r σ)) :
    callD P n (.ref k off :: args) σ (.mk : Tg (K, Kp)) := by
  have same : ∀ s : Store, s[k]? = some (.cells cs) → s.set k (.cells cs) = s := fun s hs => by
    refine List.ext_getElem? fun i => ?_
    by_cases hi : k = i
    · subst hi; rw [getElem?_set_eq hs, hs]
    · rw [List.getElem?_set_ne hi]
  refine ⟨r, fun τ => ?_, hk⟩
  have hs : (σ ++ τ)[k]? = some (.cells cs) := by rw [List.getElem?_append_left (List.getElem?_eq_some_iff.1 hσ).1]; exact hσ
  exact (h (σ ++ τ) k hs).mono fun o s ⟨h1, h2⟩ => ⟨h1, h2.trans (same _ hs)⟩
attribute [go_sem] Int.tdiv_eq_ediv_of_nonneg Int.tmod_eq_emod_of_nonneg x_get0 x_getS x_set0 x_setS x_getD0 x_getDS x_lenC x_lenN x_drop0 x_dropS x_take0 x_takeS x_mapC x_mapN x_appC x_appN x_appE x_rep0 x_repS x_many0 x_manyS x_cellsA x_nil2 x_contC x_contN boolbeq2 getD_map Bool.or_false Bool.or_true Bool.true_or Bool.false_or beq_self_eq_true Bool.and_true Bool.true_and Bool.and_false Bool.false_and Int.toNat_natCast Int.toNat_natCast_add_one Int.toNat_zero List.length_map List.length_append Nat.zero_add Bool.not_true Bool.not_false
attribute [simp] AV.fits AV.scalar AV.cells apartAll apartA AV.obj roomOk
end Go.AM
namespace Go.Proofs.YtnfendddolhcoaaGreatDoor
open Go.AM
set_option maxRecDepth 10000
abbrev n_law26_RepoNil : FuncId := 3
abbrev n_law25_Acts_Few : FuncId := 4
abbrev n_law26_lives : FuncId := 5
abbrev n_repo_Open : FuncId := 6
abbrev n_repo_Repo_Publish : FuncId := 7
abbrev n_repo_Repo_Version : FuncId := 8
abbrev n_repo_Repo_List : FuncId := 9
abbrev n_repo_Repo_Decide : FuncId := 10
abbrev n_repo_Repo_Log : FuncId := 11
abbrev n_repo_Repo_Mark : FuncId := 12
abbrev n_repo_Repo_Audit : FuncId := 13
abbrev n_repo_Repo_Compact : FuncId := 14
abbrev n_repo_Repo_Sync : FuncId := 15
abbrev n_law18_T_Small : FuncId := 16
abbrev n_law16_Row_Few : FuncId := 17
abbrev n_law18_order : FuncId := 42
abbrev n_law18_texts : FuncId := 43
abbrev n_ref21_Same : FuncId := 48
abbrev n_catalog_Key : FuncId := 64
abbrev n_octet_Num : FuncId := 67
abbrev n_chain_Bytes : FuncId := 69
abbrev n_tree_may : FuncId := 71
abbrev n_octet_Fixed : FuncId := 80
abbrev n_lex_Name : FuncId := 81
abbrev n_catalog_version : FuncId := 87
abbrev n_chain_Push : FuncId := 92
abbrev n_journal_place : FuncId := 93
abbrev n_journal_put : FuncId := 94
abbrev n_law15_Cols_Few : FuncId := 102
abbrev n_octet_Read : FuncId := 111
abbrev n_strings_Trim : FuncId := 115
abbrev n_syntax_Text : FuncId := 121
abbrev n_octet_Text : FuncId := 123
abbrev n_tcodec_order : FuncId := 126
abbrev n_tcodec_texts : FuncId := 127
abbrev n_chunk_Clear : FuncId := 129
abbrev n_chain_Parse : FuncId := 134
abbrev n_node_Put : FuncId := 143
abbrev n_octet_TakeNum : FuncId := 164
abbrev n_dtable_frame : FuncId := 165
abbrev n_octet_TakeText : FuncId := 174
abbrev n_label_pair_best : FuncId := 187
abbrev n_label_pair_state : FuncId := 188
abbrev n_label_Bytes : FuncId := 190
abbrev n_seal_Put : FuncId := 191
abbrev n_seal_Take : FuncId := 194
abbrev n_cell_text : FuncId := 201
abbrev n_dtable_sameColumn : FuncId := 209
abbrev n_value_Row : FuncId := 212
abbrev n_node_Find : FuncId := 214
abbrev n_strings_Repeat : FuncId := 218
abbrev n_slices_Insert_Pair : FuncId := 228
abbrev n_dtable_columns : FuncId := 253
abbrev n_dtable_tell : FuncId := 256
abbrev n_entry_rising : FuncId := 263
abbrev n_entry_plain : FuncId := 264
abbrev n_seal_Halves : FuncId := 276
abbrev n_seal_blank : FuncId := 279
abbrev n_cell_Check_1 : FuncId := 283
abbrev n_value_Bytes : FuncId := 297
abbrev n_strings_Compare : FuncId := 300
abbrev n_node_wide : FuncId := 306
abbrev n_value_Take : FuncId := 320
abbrev n_cell_Typed : FuncId := 330
abbrev n_syntax_Parse : FuncId := 331
abbrev n_typing_Kind : FuncId := 332
abbrev n_cell_Holds : FuncId := 334
abbrev n_syntax_Check : FuncId := 335
abbrev n_entry_plain_1 : FuncId := 347
abbrev n_syntax_Read : FuncId := 395
abbrev n_eval_sums : FuncId := 404
abbrev n_crc_halves : FuncId := 417
abbrev n_crc_on : FuncId := 418
abbrev n_lex_next : FuncId := 434
abbrev n_sha_rotr : FuncId := 451
abbrev n_math_bits_RotateLeft32 : FuncId := 482
end Go.Proofs.YtnfendddolhcoaaGreatDoor
namespace Go.Proofs.YtnfendddolhcoaaGreatDoor
open Go.AM
set_option maxRecDepth 10000
def h_law26_RepoNil : Hints := ⟨[], [], [], [], [], []⟩
def b_law26_RepoNil : ACode := .seq (.region [⟨.box (.t 0), (some 2), none⟩, ⟨.mv (.c (.bool false)), (some 4), none⟩]) <|
  .seq (.seq (.region [⟨.load true 12 (.t 2), (some 24), none⟩, ⟨.bslice false ⟨true, 12⟩ (.agg [(.int .i64 0), (.str []), .nils, .nils, (.int .i64 0), (.int .i64 0), .nils, (.str []), (.int .i64 0), .nils, (.int .i64 0), (.int .i64 0)]) 1 [(0, (.t 24))], (some 25), none⟩, ⟨.call false (.c (.fn (.func n_law25_Acts_Few) [] [])) [(.t 25)], (some 26), none⟩, ⟨.un .not (.t 26), (some 27), none⟩]) <|
  .cond (.t 27) (.seq (.region [⟨.call false (.c (.fn (.func n_law26_lives) [] [])) [], (some 28), none⟩, ⟨.mv (.t 28), (some 4), none⟩]) <|
  .ret) (.skip)) <|
  .seq (.region [⟨.mv (.c .nilp), (some 5), none⟩]) <|
  .seq (.seq (.region [⟨.mv (.t 1), (some 29), none⟩]) <|
  .cond (.t 29) (.region [⟨.build [.nilp] [], (some 30), none⟩, ⟨.box (.t 30), (some 31), none⟩, ⟨.mv (.t 31), (some 5), none⟩]) (.skip)) <|
  .seq (.region [⟨.call false (.c (.fn (.func n_repo_Open) [] [])) [(.c .nilp)], (some 33), none⟩, ⟨.mv (.t 33), (some 32), none⟩, ⟨.ext (.t 32) 0, (some 34), none⟩, ⟨.ext (.t 32) 1, (some 35), none⟩, ⟨.mv (.t 34), (some 6), none⟩, ⟨.mv (.t 35), (some 7), none⟩]) <|
  .seq (.region [⟨.mv (.t 5), (some 37), none⟩, ⟨.faddr 1 (.t 2), (some 38), none⟩, ⟨.load true 6 (.t 38), (some 39), none⟩, ⟨.call false (.c (.fn (.func n_repo_Repo_Publish) [] [])) [(.t 37), (.t 39)], (some 40), none⟩, ⟨.mv (.t 40), (some 36), none⟩, ⟨.ext (.t 36) 0, (some 41), none⟩, ⟨.ext (.t 36) 1, (some 42), none⟩, ⟨.mv (.t 41), (some 8), none⟩, ⟨.mv (.t 42), (some 9), none⟩]) <|
  .seq (.region [⟨.mv (.t 5), (some 44), none⟩, ⟨.faddr 7 (.t 2), (some 45), none⟩, ⟨.load false 1 (.t 45), (some 46), none⟩, ⟨.faddr 8 (.t 2), (some 47), none⟩, ⟨.load false 1 (.t 47), (some 48), none⟩, ⟨.call false (.c (.fn (.func n_repo_Repo_Version) [] [])) [(.t 44), (.t 46), (.t 48)], (some 49), none⟩, ⟨.mv (.t 49), (some 43), none⟩, ⟨.ext (.t 43) 0, (some 50), none⟩, ⟨.ext (.t 43) 1, (some 51), none⟩, ⟨.ext (.t 43) 2, (some 52), none⟩, ⟨.alloc none [(.str []), .nils, .nils, (.int .i64 0), (.int .i64 0), .nils], (some 10), none⟩, ⟨.store 6 (.t 10) (.t 50), none, none⟩, ⟨.mv (.t 51), (some 11), none⟩, ⟨.mv (.t 52), (some 12), none⟩]) <|
  .seq (.region [⟨.mv (.t 5), (some 54), none⟩, ⟨.call false (.c (.fn (.func n_repo_Repo_List) [] [])) [(.t 54)], (some 55), none⟩, ⟨.mv (.t 55), (some 53), none⟩, ⟨.ext (.t 53) 0, (some 56), none⟩, ⟨.ext (.t 53) 1, (some 57), none⟩, ⟨.mv (.t 56), (some 13), none⟩, ⟨.mv (.t 57), (some 14), none⟩]) <|
  .seq (.region [⟨.mv (.t 5), (some 59), none⟩, ⟨.faddr 7 (.t 2), (some 60), none⟩, ⟨.load false 1 (.t 60), (some 61), none⟩, ⟨.faddr 8 (.t 2), (some 62), none⟩, ⟨.load false 1 (.t 62), (some 63), none⟩, ⟨.faddr 9 (.t 2), (some 64), none⟩, ⟨.load false 1 (.t 64), (some 65), none⟩, ⟨.call false (.c (.fn (.func n_repo_Repo_Decide) [] [])) [(.t 59), (.t 61), (.t 63), (.t 65)], (some 66), none⟩, ⟨.mv (.t 66), (some 58), none⟩, ⟨.ext (.t 58) 0, (some 67), none⟩, ⟨.ext (.t 58) 1, (some 68), none⟩, ⟨.ext (.t 58) 2, (some 69), none⟩, ⟨.alloc none [(.str []), (.int .i64 0), .nils, (.int .i64 0), .nils, .nils], (some 15), none⟩, ⟨.store 6 (.t 15) (.t 67), none, none⟩, ⟨.mv (.t 68), (some 16), none⟩, ⟨.mv (.t 69), (some 17), none⟩]) <|
  .seq (.region [⟨.mv (.t 5), (some 71), none⟩, ⟨.faddr 10 (.t 2), (some 72), none⟩, ⟨.load false 1 (.t 72), (some 73), none⟩, ⟨.faddr 11 (.t 2), (some 74), none⟩, ⟨.load false 1 (.t 74), (some 75), none⟩, ⟨.call false (.c (.fn (.func n_repo_Repo_Log) [] [])) [(.t 71), (.t 73), (.t 75)], (some 76), none⟩, ⟨.mv (.t 76), (some 70), none⟩, ⟨.ext (.t 70) 0, (some 77), none⟩, ⟨.ext (.t 70) 1, (some 78), none⟩, ⟨.mv (.t 77), (some 18), none⟩, ⟨.mv (.t 78), (some 19), none⟩]) <|
  .seq (.region [⟨.mv (.t 5), (some 80), none⟩, ⟨.call false (.c (.fn (.func n_repo_Repo_Mark) [] [])) [(.t 80)], (some 81), none⟩, ⟨.mv (.t 81), (some 79), none⟩, ⟨.ext (.t 79) 0, (some 82), none⟩, ⟨.ext (.t 79) 1, (some 83), none⟩, ⟨.alloc none [(.int .i64 0), (.int .i64 0), (.str []), (.str [])], (some 20), none⟩, ⟨.store 4 (.t 20) (.t 82), none, none⟩, ⟨.mv (.t 83), (some 21), none⟩]) <|
  .seq (.region [⟨.mv (.t 5), (some 85), none⟩, ⟨.call false (.c (.fn (.func n_repo_Repo_Audit) [] [])) [(.t 85)], (some 86), none⟩, ⟨.mv (.t 86), (some 84), none⟩, ⟨.ext (.t 84) 0, (some 87), none⟩, ⟨.ext (.t 84) 1, (some 88), none⟩, ⟨.mv (.t 87), (some 22), none⟩, ⟨.mv (.t 88), (some 23), none⟩]) <|
  .seq (.region [⟨.mv (.t 6), (some 89), none⟩, ⟨.eqnil false .p (.t 89) (.c .nilp), (some 90), none⟩, ⟨.mv (.t 90), (some 91), none⟩, ⟨.mv (.t 7), (some 92), some (91, true)⟩, ⟨.bin .eql (.t 92) (.c (.int .i64 1)), (some 93), some (91, true)⟩, ⟨.pick (.t 91) (.t 93) (.c (.bool false)), (some 94), none⟩, ⟨.mv (.t 94), (some 95), none⟩, ⟨.mv (.t 8), (some 96), some (95, true)⟩, ⟨.bin .eql (.t 96) (.c (.int .i64 0)), (some 97), some (95, true)⟩, ⟨.pick (.t 95) (.t 97) (.c (.bool false)), (some 98), none⟩, ⟨.mv (.t 98), (some 99), none⟩, ⟨.mv (.t 9), (some 100), some (99, true)⟩, ⟨.bin .eql (.t 100) (.c (.int .i64 1)), (some 101), some (99, true)⟩, ⟨.pick (.t 99) (.t 101) (.c (.bool false)), (some 102), none⟩, ⟨.mv (.t 102), (some 103), none⟩, ⟨.mv (.t 11), (some 104), some (103, true)⟩, ⟨.bin .eql (.t 104) (.c (.int .i64 0)), (some 105), some (103, true)⟩, ⟨.pick (.t 103) (.t 105) (.c (.bool false)), (some 106), none⟩, ⟨.mv (.t 106), (some 107), none⟩, ⟨.mv (.t 12), (some 108), some (107, true)⟩, ⟨.bin .eql (.t 108) (.c (.int .i64 1)), (some 109), some (107, true)⟩, ⟨.pick (.t 107) (.t 109) (.c (.bool false)), (some 110), none⟩, ⟨.mv (.t 110), (some 111), none⟩, ⟨.mv (.t 13), (some 112), some (111, true)⟩, ⟨.len false (.t 112), (some 113), some (111, true)⟩, ⟨.bin .eql (.t 113) (.c (.int .i64 0)), (some 114), some (111, true)⟩, ⟨.pick (.t 111) (.t 114) (.c (.bool false)), (some 115), none⟩, ⟨.mv (.t 115), (some 116), none⟩, ⟨.mv (.t 14), (some 117), some (116, true)⟩, ⟨.bin .eql (.t 117) (.c (.int .i64 1)), (some 118), some (116, true)⟩, ⟨.pick (.t 116) (.t 118) (.c (.bool false)), (some 119), none⟩, ⟨.mv (.t 119), (some 120), none⟩, ⟨.mv (.t 16), (some 121), some (120, true)⟩, ⟨.bin .eql (.t 121) (.c (.int .i64 0)), (some 122), some (120, true)⟩, ⟨.pick (.t 120) (.t 122) (.c (.bool false)), (some 123), none⟩, ⟨.mv (.t 123), (some 124), none⟩, ⟨.mv (.t 17), (some 125), some (124, true)⟩, ⟨.bin .eql (.t 125) (.c (.int .i64 1)), (some 126), some (124, true)⟩, ⟨.pick (.t 124) (.t 126) (.c (.bool false)), (some 127), none⟩, ⟨.mv (.t 127), (some 128), none⟩, ⟨.mv (.t 18), (some 129), some (128, true)⟩, ⟨.len false (.t 129), (some 130), some (128, true)⟩, ⟨.bin .eql (.t 130) (.c (.int .i64 0)), (some 131), some (128, true)⟩, ⟨.pick (.t 128) (.t 131) (.c (.bool false)), (some 132), none⟩, ⟨.mv (.t 132), (some 133), none⟩, ⟨.mv (.t 19), (some 134), some (133, true)⟩, ⟨.bin .eql (.t 134) (.c (.int .i64 1)), (some 135), some (133, true)⟩, ⟨.pick (.t 133) (.t 135) (.c (.bool false)), (some 136), none⟩, ⟨.mv (.t 136), (some 137), none⟩, ⟨.load true 4 (.t 20), (some 138), some (137, true)⟩, ⟨.build [(.int .i64 0), (.int .i64 0), (.str []), (.str [])] [], (some 139), some (137, true)⟩, ⟨.eqf false true [.i, .i, .s, .s] (.t 138) (.t 139), (some 140), some (137, true)⟩, ⟨.pick (.t 137) (.t 140) (.c (.bool false)), (some 141), none⟩, ⟨.mv (.t 141), (some 142), none⟩, ⟨.mv (.t 21), (some 143), some (142, true)⟩, ⟨.bin .eql (.t 143) (.c (.int .i64 1)), (some 144), some (142, true)⟩, ⟨.pick (.t 142) (.t 144) (.c (.bool false)), (some 145), none⟩, ⟨.mv (.t 145), (some 146), none⟩, ⟨.mv (.t 5), (some 147), some (146, true)⟩, ⟨.faddr 10 (.t 2), (some 148), some (146, true)⟩, ⟨.load false 1 (.t 148), (some 149), some (146, true)⟩, ⟨.call false (.c (.fn (.func n_repo_Repo_Compact) [] [])) [(.t 147), (.t 149)], (some 150), some (146, true)⟩, ⟨.bin .eql (.t 150) (.c (.int .i64 1)), (some 151), some (146, true)⟩, ⟨.pick (.t 146) (.t 151) (.c (.bool false)), (some 152), none⟩, ⟨.mv (.t 152), (some 153), none⟩, ⟨.mv (.t 22), (some 154), some (153, true)⟩, ⟨.bin .eql (.t 154) (.c (.int .i64 0)), (some 155), some (153, true)⟩, ⟨.pick (.t 153) (.t 155) (.c (.bool false)), (some 156), none⟩, ⟨.mv (.t 156), (some 157), none⟩, ⟨.mv (.t 23), (some 158), some (157, true)⟩, ⟨.bin .eql (.t 158) (.c (.int .i64 1)), (some 159), some (157, true)⟩, ⟨.pick (.t 157) (.t 159) (.c (.bool false)), (some 160), none⟩, ⟨.mv (.t 160), (some 161), none⟩, ⟨.mv (.t 5), (some 162), some (161, true)⟩, ⟨.call false (.c (.fn (.func n_repo_Repo_Sync) [] [])) [(.t 162)], (some 163), some (161, true)⟩, ⟨.bin .eql (.t 163) (.c (.int .i64 1)), (some 164), some (161, true)⟩, ⟨.pick (.t 161) (.t 164) (.c (.bool false)), (some 165), none⟩, ⟨.mv (.t 165), (some 166), none⟩, ⟨.call false (.c (.fn (.func n_law26_lives) [] [])) [], (some 167), some (166, true)⟩, ⟨.pick (.t 166) (.t 167) (.c (.bool false)), (some 168), none⟩, ⟨.mv (.t 168), (some 4), none⟩]) <|
  .ret
def a_law26_RepoNil : AFunc := ⟨169, [.tmp 4], b_law26_RepoNil⟩
theorem a_law26_RepoNil_ok : compileF Tryz.prog h_law26_RepoNil Tryz.f3 = some a_law26_RepoNil := by kernel_rfl
theorem of_law26_RepoNil {args : List AV} {σ : Store} {R : Out → Store → Prop} (hl : args.length ≤ 169) (h : WpR Tryz.prog b_law26_RepoNil [.tmp 4] args σ R) : CallA Tryz.prog n_law26_RepoNil args σ R := CallA.of_wp Tryz.func3 (by kernel_rfl) a_law26_RepoNil_ok hl h.go
def h_law25_Acts_Few : Hints := ⟨[], [], [], [], [], []⟩
def b_law25_Acts_Few : ACode := .seq (.region [⟨.mv (.c (.bool false)), (some 2), none⟩]) <|
  .seq (.seq (.region [⟨.mv (.t 0), (some 4), none⟩, ⟨.len false (.t 4), (some 5), none⟩, ⟨.bin .gtr (.t 5) (.c (.int .i64 30)), (some 6), none⟩]) <|
  .cond (.t 6) (.seq (.region [⟨.mv (.c (.bool false)), (some 2), none⟩]) <|
  .ret) (.skip)) <|
  .seq (.seq (.region [⟨.mv (.c (.int .i64 0)), (some 3), none⟩]) <|
  .block 0 (.loop (.seq (.seq (.region [⟨.mv (.t 3), (some 7), none⟩, ⟨.mv (.t 0), (some 8), none⟩, ⟨.len false (.t 8), (some 9), none⟩, ⟨.bin .lss (.t 7) (.t 9), (some 10), none⟩]) <|
  .cond (.t 10) (.skip) (.exit 0)) <|
  .seq (.block 1 (.seq (.region [⟨.mv (.t 0), (some 13), none⟩, ⟨.mv (.t 3), (some 14), none⟩, ⟨.iaddr ⟨true, 12⟩ none (.t 13) (.t 14), (some 15), none⟩, ⟨.faddr 1 (.t 15), (some 16), none⟩, ⟨.load true 6 (.t 16), (some 17), none⟩, ⟨.call false (.c (.fn (.func n_law18_T_Small) [] [])) [(.t 17)], (some 18), none⟩, ⟨.un .not (.t 18), (some 19), none⟩, ⟨.mv (.t 19), (some 20), none⟩, ⟨.mv (.t 0), (some 21), some (20, false)⟩, ⟨.mv (.t 3), (some 22), some (20, false)⟩, ⟨.iaddr ⟨true, 12⟩ none (.t 21) (.t 22), (some 23), some (20, false)⟩, ⟨.faddr 7 (.t 23), (some 24), some (20, false)⟩, ⟨.load false 1 (.t 24), (some 25), some (20, false)⟩, ⟨.len true (.t 25), (some 26), some (20, false)⟩, ⟨.bin .gtr (.t 26) (.c (.int .i64 300)), (some 27), some (20, false)⟩, ⟨.pick (.t 20) (.c (.bool true)) (.t 27), (some 28), none⟩, ⟨.mv (.t 28), (some 29), none⟩, ⟨.mv (.t 0), (some 30), some (29, false)⟩, ⟨.mv (.t 3), (some 31), some (29, false)⟩, ⟨.iaddr ⟨true, 12⟩ none (.t 30) (.t 31), (some 32), some (29, false)⟩, ⟨.faddr 9 (.t 32), (some 33), some (29, false)⟩, ⟨.load false 1 (.t 33), (some 34), some (29, false)⟩, ⟨.call false (.c (.fn (.func n_law16_Row_Few) [] [])) [(.t 34)], (some 35), some (29, false)⟩, ⟨.un .not (.t 35), (some 36), some (29, false)⟩, ⟨.pick (.t 29) (.c (.bool true)) (.t 36), (some 37), none⟩]) <|
  .cond (.t 37) (.seq (.region [⟨.mv (.c (.bool false)), (some 2), none⟩]) <|
  .ret) (.skip))) <|
  .region [⟨.mv (.t 3), (some 11), none⟩, ⟨.bin .add (.t 11) (.c (.int .i64 1)), (some 12), none⟩, ⟨.mv (.t 12), (some 3), none⟩]))) <|
  .seq (.region [⟨.mv (.c (.bool true)), (some 2), none⟩]) <|
  .ret
def a_law25_Acts_Few : AFunc := ⟨38, [.tmp 2], b_law25_Acts_Few⟩
theorem a_law25_Acts_Few_ok : compileF Tryz.prog h_law25_Acts_Few Tryz.f4 = some a_law25_Acts_Few := by kernel_rfl
theorem of_law25_Acts_Few {args : List AV} {σ : Store} {R : Out → Store → Prop} (hl : args.length ≤ 38) (h : WpR Tryz.prog b_law25_Acts_Few [.tmp 2] args σ R) : CallA Tryz.prog n_law25_Acts_Few args σ R := CallA.of_wp Tryz.func4 (by kernel_rfl) a_law25_Acts_Few_ok hl h.go
def h_law18_T_Small : Hints := ⟨[], [], [], [], [], []⟩
def b_law18_T_Small : ACode := .seq (.region [⟨.box (.t 0), (some 1), none⟩, ⟨.mv (.c (.bool false)), (some 2), none⟩]) <|
  .seq (.seq (.region [⟨.faddr 0 (.t 1), (some 4), none⟩, ⟨.load false 1 (.t 4), (some 5), none⟩, ⟨.len true (.t 5), (some 6), none⟩, ⟨.bin .gtr (.t 6) (.c (.int .i64 300)), (some 7), none⟩, ⟨.mv (.t 7), (some 8), none⟩, ⟨.faddr 5 (.t 1), (some 9), some (8, false)⟩, ⟨.load false 1 (.t 9), (some 10), some (8, false)⟩, ⟨.len false (.t 10), (some 11), some (8, false)⟩, ⟨.bin .gtr (.t 11) (.c (.int .i64 26)), (some 12), some (8, false)⟩, ⟨.pick (.t 8) (.c (.bool true)) (.t 12), (some 13), none⟩, ⟨.mv (.t 13), (some 14), none⟩, ⟨.faddr 1 (.t 1), (some 15), some (14, false)⟩, ⟨.load false 1 (.t 15), (some 16), some (14, false)⟩, ⟨.call false (.c (.fn (.func n_law18_order) [] [])) [(.t 16)], (some 17), some (14, false)⟩, ⟨.un .not (.t 17), (some 18), some (14, false)⟩, ⟨.pick (.t 14) (.c (.bool true)) (.t 18), (some 19), none⟩, ⟨.mv (.t 19), (some 20), none⟩, ⟨.faddr 2 (.t 1), (some 21), some (20, false)⟩, ⟨.load false 1 (.t 21), (some 22), some (20, false)⟩, ⟨.call false (.c (.fn (.func n_law18_order) [] [])) [(.t 22)], (some 23), some (20, false)⟩, ⟨.un .not (.t 23), (some 24), some (20, false)⟩, ⟨.pick (.t 20) (.c (.bool true)) (.t 24), (some 25), none⟩]) <|
  .cond (.t 25) (.seq (.region [⟨.mv (.c (.bool false)), (some 2), none⟩]) <|
  .ret) (.skip)) <|
  .seq (.seq (.region [⟨.mv (.c (.int .i64 0)), (some 3), none⟩]) <|
  .block 0 (.loop (.seq (.seq (.region [⟨.mv (.t 3), (some 26), none⟩, ⟨.faddr 5 (.t 1), (some 27), none⟩, ⟨.load false 1 (.t 27), (some 28), none⟩, ⟨.len false (.t 28), (some 29), none⟩, ⟨.bin .lss (.t 26) (.t 29), (some 30), none⟩]) <|
  .cond (.t 30) (.skip) (.exit 0)) <|
  .seq (.block 1 (.seq (.region [⟨.faddr 5 (.t 1), (some 33), none⟩, ⟨.load false 1 (.t 33), (some 34), none⟩, ⟨.mv (.t 3), (some 35), none⟩, ⟨.iaddr ⟨true, 2⟩ none (.t 34) (.t 35), (some 36), none⟩, ⟨.faddr 0 (.t 36), (some 37), none⟩, ⟨.load false 1 (.t 37), (some 38), none⟩, ⟨.call false (.c (.fn (.func n_law18_texts) [] [])) [(.t 38)], (some 39), none⟩, ⟨.un .not (.t 39), (some 40), none⟩, ⟨.mv (.t 40), (some 41), none⟩, ⟨.faddr 5 (.t 1), (some 42), some (41, false)⟩, ⟨.load false 1 (.t 42), (some 43), some (41, false)⟩, ⟨.mv (.t 3), (some 44), some (41, false)⟩, ⟨.iaddr ⟨true, 2⟩ none (.t 43) (.t 44), (some 45), some (41, false)⟩, ⟨.faddr 1 (.t 45), (some 46), some (41, false)⟩, ⟨.load false 1 (.t 46), (some 47), some (41, false)⟩, ⟨.call false (.c (.fn (.func n_law18_texts) [] [])) [(.t 47)], (some 48), some (41, false)⟩, ⟨.un .not (.t 48), (some 49), some (41, false)⟩, ⟨.pick (.t 41) (.c (.bool true)) (.t 49), (some 50), none⟩]) <|
  .cond (.t 50) (.seq (.region [⟨.mv (.c (.bool false)), (some 2), none⟩]) <|
  .ret) (.skip))) <|
  .region [⟨.mv (.t 3), (some 31), none⟩, ⟨.bin .add (.t 31) (.c (.int .i64 1)), (some 32), none⟩, ⟨.mv (.t 32), (some 3), none⟩]))) <|
  .seq (.region [⟨.mv (.c (.bool true)), (some 2), none⟩]) <|
  .ret
def a_law18_T_Small : AFunc := ⟨51, [.tmp 2], b_law18_T_Small⟩
theorem a_law18_T_Small_ok : compileF Tryz.prog h_law18_T_Small Tryz.f16 = some a_law18_T_Small := by kernel_rfl
theorem of_law18_T_Small {args : List AV} {σ : Store} {R : Out → Store → Prop} (hl : args.length ≤ 51) (h : WpR Tryz.prog b_law18_T_Small [.tmp 2] args σ R) : CallA Tryz.prog n_law18_T_Small args σ R := CallA.of_wp Tryz.func16 (by kernel_rfl) a_law18_T_Small_ok hl h.go
def h_law16_Row_Few : Hints := ⟨[], [], [], [], [], []⟩
def b_law16_Row_Few : ACode := .seq (.region [⟨.mv (.c (.bool false)), (some 2), none⟩]) <|
  .seq (.seq (.region [⟨.mv (.t 0), (some 4), none⟩, ⟨.len false (.t 4), (some 5), none⟩, ⟨.bin .gtr (.t 5) (.c (.int .i64 12)), (some 6), none⟩]) <|
  .cond (.t 6) (.seq (.region [⟨.mv (.c (.bool false)), (some 2), none⟩]) <|
  .ret) (.skip)) <|
  .seq (.seq (.region [⟨.mv (.c (.int .i64 0)), (some 3), none⟩]) <|
  .block 0 (.loop (.seq (.seq (.region [⟨.mv (.t 3), (some 7), none⟩, ⟨.mv (.t 0), (some 8), none⟩, ⟨.len false (.t 8), (some 9), none⟩, ⟨.bin .lss (.t 7) (.t 9), (some 10), none⟩]) <|
  .cond (.t 10) (.skip) (.exit 0)) <|
  .seq (.block 1 (.seq (.region [⟨.mv (.t 0), (some 13), none⟩, ⟨.mv (.t 3), (some 14), none⟩, ⟨.iaddr ⟨true, 3⟩ none (.t 13) (.t 14), (some 15), none⟩, ⟨.faddr 2 (.t 15), (some 16), none⟩, ⟨.load false 1 (.t 16), (some 17), none⟩, ⟨.len true (.t 17), (some 18), none⟩, ⟨.bin .gtr (.t 18) (.c (.int .i64 300)), (some 19), none⟩]) <|
  .cond (.t 19) (.seq (.region [⟨.mv (.c (.bool false)), (some 2), none⟩]) <|
  .ret) (.skip))) <|
  .region [⟨.mv (.t 3), (some 11), none⟩, ⟨.bin .add (.t 11) (.c (.int .i64 1)), (some 12), none⟩, ⟨.mv (.t 12), (some 3), none⟩]))) <|
  .seq (.region [⟨.mv (.c (.bool true)), (some 2), none⟩]) <|
  .ret
def a_law16_Row_Few : AFunc := ⟨20, [.tmp 2], b_law16_Row_Few⟩
theorem a_law16_Row_Few_ok : compileF Tryz.prog h_law16_Row_Few Tryz.f17 = some a_law16_Row_Few := by kernel_rfl
theorem of_law16_Row_Few {args : List AV} {σ : Store} {R : Out → Store → Prop} (hl : args.length ≤ 20) (h : WpR Tryz.prog b_law16_Row_Few [.tmp 2] args σ R) : CallA Tryz.prog n_law16_Row_Few args σ R := CallA.of_wp Tryz.func17 (by kernel_rfl) a_law16_Row_Few_ok hl h.go
def h_law18_order : Hints := ⟨[], [], [], [], [], []⟩
def b_law18_order : ACode := .seq (.region [⟨.mv (.c (.bool false)), (some 2), none⟩]) <|
  .seq (.seq (.region [⟨.mv (.t 0), (some 5), none⟩, ⟨.call false (.c (.fn (.func n_law15_Cols_Few) [] [])) [(.t 5)], (some 6), none⟩, ⟨.un .not (.t 6), (some 7), none⟩]) <|
  .cond (.t 7) (.seq (.region [⟨.mv (.c (.bool false)), (some 2), none⟩]) <|
  .ret) (.skip)) <|
  .seq (.seq (.region [⟨.mv (.c (.int .i64 0)), (some 3), none⟩]) <|
  .block 0 (.loop (.seq (.seq (.region [⟨.mv (.t 3), (some 8), none⟩, ⟨.mv (.t 0), (some 9), none⟩, ⟨.len false (.t 9), (some 10), none⟩, ⟨.bin .lss (.t 8) (.t 10), (some 11), none⟩]) <|
  .cond (.t 11) (.skip) (.exit 0)) <|
  .seq (.block 1 (.seq (.seq (.region [⟨.mv (.t 0), (some 14), none⟩, ⟨.mv (.t 3), (some 15), none⟩, ⟨.iaddr ⟨true, 3⟩ none (.t 14) (.t 15), (some 16), none⟩, ⟨.faddr 2 (.t 16), (some 17), none⟩, ⟨.load false 1 (.t 17), (some 18), none⟩, ⟨.len false (.t 18), (some 19), none⟩, ⟨.bin .gtr (.t 19) (.c (.int .i64 12)), (some 20), none⟩]) <|
  .cond (.t 20) (.seq (.region [⟨.mv (.c (.bool false)), (some 2), none⟩]) <|
  .ret) (.skip)) <|
  .seq (.region [⟨.mv (.c (.int .i64 0)), (some 4), none⟩]) <|
  .block 2 (.loop (.seq (.seq (.region [⟨.mv (.t 4), (some 21), none⟩, ⟨.mv (.t 0), (some 22), none⟩, ⟨.mv (.t 3), (some 23), none⟩, ⟨.iaddr ⟨true, 3⟩ none (.t 22) (.t 23), (some 24), none⟩, ⟨.faddr 2 (.t 24), (some 25), none⟩, ⟨.load false 1 (.t 25), (some 26), none⟩, ⟨.len false (.t 26), (some 27), none⟩, ⟨.bin .lss (.t 21) (.t 27), (some 28), none⟩]) <|
  .cond (.t 28) (.skip) (.exit 2)) <|
  .seq (.block 3 (.seq (.region [⟨.mv (.t 0), (some 31), none⟩, ⟨.mv (.t 3), (some 32), none⟩, ⟨.iaddr ⟨true, 3⟩ none (.t 31) (.t 32), (some 33), none⟩, ⟨.faddr 2 (.t 33), (some 34), none⟩, ⟨.load false 1 (.t 34), (some 35), none⟩, ⟨.mv (.t 4), (some 36), none⟩, ⟨.iaddr ⟨true, 3⟩ none (.t 35) (.t 36), (some 37), none⟩, ⟨.faddr 2 (.t 37), (some 38), none⟩, ⟨.load false 1 (.t 38), (some 39), none⟩, ⟨.len true (.t 39), (some 40), none⟩, ⟨.bin .gtr (.t 40) (.c (.int .i64 300)), (some 41), none⟩]) <|
  .cond (.t 41) (.seq (.region [⟨.mv (.c (.bool false)), (some 2), none⟩]) <|
  .ret) (.skip))) <|
  .region [⟨.mv (.t 4), (some 29), none⟩, ⟨.bin .add (.t 29) (.c (.int .i64 1)), (some 30), none⟩, ⟨.mv (.t 30), (some 4), none⟩])))) <|
  .region [⟨.mv (.t 3), (some 12), none⟩, ⟨.bin .add (.t 12) (.c (.int .i64 1)), (some 13), none⟩, ⟨.mv (.t 13), (some 3), none⟩]))) <|
  .seq (.region [⟨.mv (.c (.bool true)), (some 2), none⟩]) <|
  .ret
def a_law18_order : AFunc := ⟨42, [.tmp 2], b_law18_order⟩
theorem a_law18_order_ok : compileF Tryz.prog h_law18_order Tryz.f42 = some a_law18_order := by kernel_rfl
theorem of_law18_order {args : List AV} {σ : Store} {R : Out → Store → Prop} (hl : args.length ≤ 42) (h : WpR Tryz.prog b_law18_order [.tmp 2] args σ R) : CallA Tryz.prog n_law18_order args σ R := CallA.of_wp Tryz.func42 (by kernel_rfl) a_law18_order_ok hl h.go
def h_law18_texts : Hints := ⟨[], [], [], [], [], []⟩
def b_law18_texts : ACode := .seq (.region [⟨.mv (.c (.bool false)), (some 2), none⟩]) <|
  .seq (.seq (.region [⟨.mv (.t 0), (some 4), none⟩, ⟨.len false (.t 4), (some 5), none⟩, ⟨.bin .gtr (.t 5) (.c (.int .i64 10)), (some 6), none⟩]) <|
  .cond (.t 6) (.seq (.region [⟨.mv (.c (.bool false)), (some 2), none⟩]) <|
  .ret) (.skip)) <|
  .seq (.seq (.region [⟨.mv (.c (.int .i64 0)), (some 3), none⟩]) <|
  .block 0 (.loop (.seq (.seq (.region [⟨.mv (.t 3), (some 7), none⟩, ⟨.mv (.t 0), (some 8), none⟩, ⟨.len false (.t 8), (some 9), none⟩, ⟨.bin .lss (.t 7) (.t 9), (some 10), none⟩]) <|
  .cond (.t 10) (.skip) (.exit 0)) <|
  .seq (.block 1 (.seq (.region [⟨.mv (.t 0), (some 13), none⟩, ⟨.mv (.t 3), (some 14), none⟩, ⟨.iaddr ⟨false, 1⟩ none (.t 13) (.t 14), (some 15), none⟩, ⟨.load false 1 (.t 15), (some 16), none⟩, ⟨.len true (.t 16), (some 17), none⟩, ⟨.bin .gtr (.t 17) (.c (.int .i64 300)), (some 18), none⟩]) <|
  .cond (.t 18) (.seq (.region [⟨.mv (.c (.bool false)), (some 2), none⟩]) <|
  .ret) (.skip))) <|
  .region [⟨.mv (.t 3), (some 11), none⟩, ⟨.bin .add (.t 11) (.c (.int .i64 1)), (some 12), none⟩, ⟨.mv (.t 12), (some 3), none⟩]))) <|
  .seq (.region [⟨.mv (.c (.bool true)), (some 2), none⟩]) <|
  .ret
def a_law18_texts : AFunc := ⟨19, [.tmp 2], b_law18_texts⟩
theorem a_law18_texts_ok : compileF Tryz.prog h_law18_texts Tryz.f43 = some a_law18_texts := by kernel_rfl
theorem of_law18_texts {args : List AV} {σ : Store} {R : Out → Store → Prop} (hl : args.length ≤ 19) (h : WpR Tryz.prog b_law18_texts [.tmp 2] args σ R) : CallA Tryz.prog n_law18_texts args σ R := CallA.of_wp Tryz.func43 (by kernel_rfl) a_law18_texts_ok hl h.go
def h_law15_Cols_Few : Hints := ⟨[], [], [], [], [], []⟩
def b_law15_Cols_Few : ACode := .seq (.region [⟨.mv (.c (.bool false)), (some 2), none⟩]) <|
  .seq (.seq (.region [⟨.mv (.t 0), (some 4), none⟩, ⟨.len false (.t 4), (some 5), none⟩, ⟨.bin .gtr (.t 5) (.c (.int .i64 12)), (some 6), none⟩]) <|
  .cond (.t 6) (.seq (.region [⟨.mv (.c (.bool false)), (some 2), none⟩]) <|
  .ret) (.skip)) <|
  .seq (.seq (.region [⟨.mv (.c (.int .i64 0)), (some 3), none⟩]) <|
  .block 0 (.loop (.seq (.seq (.region [⟨.mv (.t 3), (some 7), none⟩, ⟨.mv (.t 0), (some 8), none⟩, ⟨.len false (.t 8), (some 9), none⟩, ⟨.bin .lss (.t 7) (.t 9), (some 10), none⟩]) <|
  .cond (.t 10) (.skip) (.exit 0)) <|
  .seq (.block 1 (.seq (.region [⟨.mv (.t 0), (some 13), none⟩, ⟨.mv (.t 3), (some 14), none⟩, ⟨.iaddr ⟨true, 3⟩ none (.t 13) (.t 14), (some 15), none⟩, ⟨.faddr 0 (.t 15), (some 16), none⟩, ⟨.load false 1 (.t 16), (some 17), none⟩, ⟨.len true (.t 17), (some 18), none⟩, ⟨.bin .gtr (.t 18) (.c (.int .i64 300)), (some 19), none⟩]) <|
  .cond (.t 19) (.seq (.region [⟨.mv (.c (.bool false)), (some 2), none⟩]) <|
  .ret) (.skip))) <|
  .region [⟨.mv (.t 3), (some 11), none⟩, ⟨.bin .add (.t 11) (.c (.int .i64 1)), (some 12), none⟩, ⟨.mv (.t 12), (some 3), none⟩]))) <|
  .seq (.region [⟨.mv (.c (.bool true)), (some 2), none⟩]) <|
  .ret
def a_law15_Cols_Few : AFunc := ⟨20, [.tmp 2], b_law15_Cols_Few⟩
theorem a_law15_Cols_Few_ok : compileF Tryz.prog h_law15_Cols_Few Tryz.f102 = some a_law15_Cols_Few := by kernel_rfl
theorem of_law15_Cols_Few {args : List AV} {σ : Store} {R : Out → Store → Prop} (hl : args.length ≤ 20) (h : WpR Tryz.prog b_law15_Cols_Few [.tmp 2] args σ R) : CallA Tryz.prog n_law15_Cols_Few args σ R := CallA.of_wp Tryz.func102 (by kernel_rfl) a_law15_Cols_Few_ok hl h.go
def h_seal_blank : Hints := ⟨[], [], [], [], [], []⟩
def b_seal_blank : ACode := .seq (.region [⟨.mv (.c (.bool false)), (some 2), none⟩]) <|
  .seq (.seq (.region [⟨.mv (.t 0), (some 4), none⟩, ⟨.len true (.t 4), (some 5), none⟩, ⟨.mv (.c (.int .i64 0)), (some 6), none⟩]) <|
  .block 0 (.loop (.seq (.region [⟨.bin .lss (.t 6) (.t 5), (some 7), none⟩]) <|
  .seq (.cond (.t 7) (.skip) (.exit 0)) <|
  .seq (.block 1 (.seq (.region [⟨.mv (.t 6), (some 8), none⟩, ⟨.mv (.t 8), (some 3), none⟩]) <|
  .seq (.region [⟨.mv (.t 0), (some 9), none⟩, ⟨.mv (.t 3), (some 10), none⟩, ⟨.idxS (.t 9) (.t 10), (some 11), none⟩, ⟨.bin .neq (.t 11) (.c (.int .u8 0)), (some 12), none⟩]) <|
  .cond (.t 12) (.seq (.region [⟨.mv (.c (.bool false)), (some 2), none⟩]) <|
  .ret) (.skip))) <|
  .region [⟨.bin .add (.t 6) (.c (.int .i64 1)), (some 13), none⟩, ⟨.mv (.t 13), (some 6), none⟩]))) <|
  .seq (.region [⟨.mv (.c (.bool true)), (some 2), none⟩]) <|
  .ret
def a_seal_blank : AFunc := ⟨14, [.tmp 2], b_seal_blank⟩
theorem a_seal_blank_ok : compileF Tryz.prog h_seal_blank Tryz.f279 = some a_seal_blank := by kernel_rfl
theorem of_seal_blank {args : List AV} {σ : Store} {R : Out → Store → Prop} (hl : args.length ≤ 14) (h : WpR Tryz.prog b_seal_blank [.tmp 2] args σ R) : CallA Tryz.prog n_seal_blank args σ R := CallA.of_wp Tryz.func279 (by kernel_rfl) a_seal_blank_ok hl h.go
def h_crc_on : Hints := ⟨[], [], [], [], [], []⟩
def b_crc_on : ACode := .seq (.region [⟨.mv (.c (.int .u32 0)), (some 6), none⟩]) <|
  .seq (.seq (.region [⟨.mv (.t 2), (some 8), none⟩, ⟨.len true (.t 8), (some 9), none⟩, ⟨.mv (.c (.int .i64 0)), (some 10), none⟩]) <|
  .block 0 (.loop (.seq (.region [⟨.bin .lss (.t 10) (.t 9), (some 11), none⟩]) <|
  .seq (.cond (.t 11) (.skip) (.exit 0)) <|
  .seq (.block 1 (.seq (.region [⟨.mv (.t 10), (some 12), none⟩, ⟨.mv (.t 12), (some 7), none⟩]) <|
  .seq (.region [⟨.mv (.t 1), (some 13), none⟩, ⟨.mv (.t 2), (some 14), none⟩, ⟨.mv (.t 7), (some 15), none⟩, ⟨.idxS (.t 14) (.t 15), (some 16), none⟩, ⟨.cint .u32 (.t 16), (some 17), none⟩, ⟨.bin .xor (.t 13) (.t 17), (some 18), none⟩, ⟨.mv (.t 18), (some 1), none⟩]) <|
  .seq (.region [⟨.mv (.t 1), (some 19), none⟩, ⟨.bin .shr (.t 19) (.c (.int .u64 4)), (some 20), none⟩, ⟨.mv (.t 0), (some 21), none⟩, ⟨.mv (.t 1), (some 22), none⟩, ⟨.bin .and (.t 22) (.c (.int .u32 15)), (some 23), none⟩, ⟨.nilck (.t 21), (some 24), none⟩, ⟨.iaddr ⟨false, 1⟩ (some 16) (.t 24) (.t 23), (some 25), none⟩, ⟨.load false 1 (.t 25), (some 26), none⟩, ⟨.bin .xor (.t 20) (.t 26), (some 27), none⟩, ⟨.mv (.t 27), (some 1), none⟩]) <|
  .region [⟨.mv (.t 1), (some 28), none⟩, ⟨.bin .shr (.t 28) (.c (.int .u64 4)), (some 29), none⟩, ⟨.mv (.t 0), (some 30), none⟩, ⟨.mv (.t 1), (some 31), none⟩, ⟨.bin .and (.t 31) (.c (.int .u32 15)), (some 32), none⟩, ⟨.nilck (.t 30), (some 33), none⟩, ⟨.iaddr ⟨false, 1⟩ (some 16) (.t 33) (.t 32), (some 34), none⟩, ⟨.load false 1 (.t 34), (some 35), none⟩, ⟨.bin .xor (.t 29) (.t 35), (some 36), none⟩, ⟨.mv (.t 36), (some 1), none⟩])) <|
  .region [⟨.bin .add (.t 10) (.c (.int .i64 1)), (some 37), none⟩, ⟨.mv (.t 37), (some 10), none⟩]))) <|
  .seq (.region [⟨.mv (.t 1), (some 38), none⟩, ⟨.mv (.t 38), (some 6), none⟩]) <|
  .ret
def a_crc_on : AFunc := ⟨39, [.tmp 6], b_crc_on⟩
theorem a_crc_on_ok : compileF Tryz.prog h_crc_on Tryz.f418 = some a_crc_on := by kernel_rfl
theorem of_crc_on {args : List AV} {σ : Store} {R : Out → Store → Prop} (hl : args.length ≤ 39) (h : WpR Tryz.prog b_crc_on [.tmp 6] args σ R) : CallA Tryz.prog n_crc_on args σ R := CallA.of_wp Tryz.func418 (by kernel_rfl) a_crc_on_ok hl h.go
def h_sha_rotr : Hints := ⟨[], [], [], [], [], []⟩
def b_sha_rotr : ACode := .seq (.region [⟨.mv (.c (.int .u32 0)), (some 4), none⟩]) <|
  .seq (.region [⟨.mv (.t 0), (some 5), none⟩, ⟨.mv (.t 1), (some 6), none⟩, ⟨.un .neg (.t 6), (some 7), none⟩, ⟨.call false (.c (.fn (.func n_math_bits_RotateLeft32) [] [])) [(.t 5), (.t 7)], (some 8), none⟩, ⟨.mv (.t 8), (some 4), none⟩]) <|
  .ret
def a_sha_rotr : AFunc := ⟨9, [.tmp 4], b_sha_rotr⟩
theorem a_sha_rotr_ok : compileF Tryz.prog h_sha_rotr Tryz.f451 = some a_sha_rotr := by kernel_rfl
theorem of_sha_rotr {args : List AV} {σ : Store} {R : Out → Store → Prop} (hl : args.length ≤ 9) (h : WpR Tryz.prog b_sha_rotr [.tmp 4] args σ R) : CallA Tryz.prog n_sha_rotr args σ R := CallA.of_wp Tryz.func451 (by kernel_rfl) a_sha_rotr_ok hl h.go
def h_math_bits_RotateLeft32 : Hints := ⟨[], [], [], [], [], []⟩
def b_math_bits_RotateLeft32 : ACode := .seq (.region [⟨.mv (.c (.int .u32 0)), (some 4), none⟩]) <|
  .seq (.region [⟨.mv (.t 1), (some 6), none⟩, ⟨.cint .u64 (.t 6), (some 7), none⟩, ⟨.bin .and (.t 7) (.c (.int .u64 31)), (some 8), none⟩, ⟨.mv (.t 8), (some 5), none⟩]) <|
  .seq (.region [⟨.mv (.t 0), (some 9), none⟩, ⟨.mv (.t 5), (some 10), none⟩, ⟨.bin .shl (.t 9) (.t 10), (some 11), none⟩, ⟨.mv (.t 0), (some 12), none⟩, ⟨.mv (.t 5), (some 13), none⟩, ⟨.bin .sub (.c (.int .u64 32)) (.t 13), (some 14), none⟩, ⟨.bin .shr (.t 12) (.t 14), (some 15), none⟩, ⟨.bin .or (.t 11) (.t 15), (some 16), none⟩, ⟨.mv (.t 16), (some 4), none⟩]) <|
  .ret
def a_math_bits_RotateLeft32 : AFunc := ⟨17, [.tmp 4], b_math_bits_RotateLeft32⟩
theorem a_math_bits_RotateLeft32_ok : compileF Tryz.prog h_math_bits_RotateLeft32 Tryz.f482 = some a_math_bits_RotateLeft32 := by kernel_rfl
theorem of_math_bits_RotateLeft32 {args : List AV} {σ : Store} {R : Out → Store → Prop} (hl : args.length ≤ 17) (h : WpR Tryz.prog b_math_bits_RotateLeft32 [.tmp 4] args σ R) : CallA Tryz.prog n_math_bits_RotateLeft32 args σ R := CallA.of_wp Tryz.func482 (by kernel_rfl) a_math_bits_RotateLeft32_ok hl h.go
end Go.Proofs.YtnfendddolhcoaaGreatDoor
namespace Go.AM
variable {P : Program}
theorem ab_ {p : Prop} (h : False := by first | omega | (simp_all; done) | (simp_all; omega)) : p := h.elim
theorem at_ {p : Prop} (h : p := by simp (disch := omega) only [at_nil, at_cons, and_true, go_sem, wrapK_i64, wrapK_u8, wrapK_u64, Nat.reduceAdd, Nat.reduceBEq, ↓reduceIte, Int.natCast_add, Int.cast_ofNat_Int] <;> (try trivial) <;> (try omega) <;> (try (repeat (first | trivial | (refine And.intro ?_ ?_) | (congr 1; omega))))) : p := h
theorem ou_ {p : Prop} (h : p := by repeat (first | exact out_ovl _ _ _ | refine out_upd rfl ?_ | refine out_ovl2 rfl ?_ | (simp only [puts_cons, puts_nil]))) : p := h
theorem bs_ {K : AV → Prop} {xs : List AV} {m n : Nat} {s : List UInt8} (hk : K (.str s)) (hx : xs = s.map fun b => AV.int .u8 b.toNat) (hm : m = xs.length) (hn : n = xs.length) : b2sO (some (.vec ⟨false, 1⟩ xs)) m 0 n (.mk : Tg K) := b2sO_whole s hx hm hn hk
theorem go_ {G K : Prop} (k : K) (h : K → G := by
    first
    | (intro k; simp (disch := omega) only [go_sem, hQr, hQn, hQp, wrapK_i64, wrapK_u8, wrapK_u64, Nat.reduceAdd, Nat.reduceBEq, ↓reduceIte]; exact k)
    | (intro k; with_reducible refine req_d ?_ k; first | omega | (simp; done) | (simp; omega) | assumption)
    | (intro k; with_reducible exact scope_no k)
    | (intro k; with_reducible exact bs_ k rfl (by simp) (by simp))) : G := h k
theorem cc_ {t : Bool} {T E p q : Prop} (h : p → T) (h' : q → E) (hp : (t = true) = p) (hq : (t = false) = q) : condA (.bool t) (.mk : Tg (T, E)) := by
  subst hp hq; exact condA_i h h'
theorem gk_ {t b : Bool} {T E U p q : Prop} (h : p → T) (h' : q → E) (hp : (t = b) = p) (hq : (t = !b) = q) : guardK (.bool t) b (.mk : Tg (T, E, U)) := by
  subst hp hq; exact guardK_i h h'
theorem br_ {p q T E G : Prop} (h : p → T) (h' : q → E) (hg : (p → T) → (q → E) → G := by
    intro h h'
    with_reducible first | refine cc_ h h' ?_ ?_ | refine gk_ h h' ?_ ?_
    all_goals
      (try simp only [decide_eq_true_eq, decide_eq_false_iff_not, beq_iff_eq, beq_eq_false_iff_ne, Bool.not_eq_true', Bool.not_eq_false', Bool.not_true, Bool.not_false, Int.not_lt, Int.not_le, ne_eq, Int.ofNat_lt, Int.ofNat_le, not_true_eq_false, reduceCtorEq, Int.toNat_zero])
      exact rfl) : G := hg h h'
theorem cf_ {n : FuncId} {args : List AV} {r : AV} {K G : Prop} (h : CallF P n args r) (k : K) (hg : CallF P n args r → K → G := by
    intro h k; with_reducible first | exact callL_f h k | exact callD_f h k) : G := hg h k
theorem cm_ {f : FuncId} {off : Nat} {args cs ds : List AV} {r : AV} {K G : Prop} (h : CallM P f off args cs ds r) (k : K) (hg : CallM P f off args cs ds r → K → G := by
    intro h k; with_reducible first | exact callL_m h rfl k | exact methT_m h rfl k | exact callD_q h rfl k) : G := hg h k
end Go.AM
