/- Part of a proof: see Root. -/
import Derived.Test.YtophdhenjdlbeaaGreatDoorW16
import Derived.KernelRfl
set_option linter.unnecessarySimpa false
set_option linter.unusedSectionVars false
set_option linter.unusedSimpArgs false
set_option linter.unusedVariables false
namespace Go.Proofs.YtophdhenjdlbeaaGreatDoor
open Go.AM
set_option maxRecDepth 10000
def h_slices_Equal_string : Hints := ⟨[], [], [], [], [], []⟩
def b_slices_Equal_string : ACode := .seq (.region [⟨.mv (.c (.bool false)), (some 4), none⟩]) <|
  .seq (.seq (.region [⟨.mv (.t 0), (some 6), none⟩, ⟨.len false (.t 6), (some 7), none⟩, ⟨.mv (.t 1), (some 8), none⟩, ⟨.len false (.t 8), (some 9), none⟩, ⟨.bin .neq (.t 7) (.t 9), (some 10), none⟩]) <|
  .cond (.t 10) (.seq (.region [⟨.mv (.c (.bool false)), (some 4), none⟩]) <|
  .ret) (.skip)) <|
  .seq (.seq (.region [⟨.mv (.t 0), (some 11), none⟩, ⟨.len false (.t 11), (some 12), none⟩, ⟨.mv (.c (.int .i64 0)), (some 13), none⟩]) <|
  .block 0 (.loop (.seq (.region [⟨.bin .lss (.t 13) (.t 12), (some 14), none⟩]) <|
  .seq (.cond (.t 14) (.skip) (.exit 0)) <|
  .seq (.block 1 (.seq (.region [⟨.mv (.t 13), (some 15), none⟩, ⟨.mv (.t 15), (some 5), none⟩]) <|
  .seq (.draw [⟨.mv (.t 0), (some 16), none⟩, ⟨.mv (.t 5), (some 17), none⟩, ⟨.iaddr ⟨false, 1⟩ none (.t 16) (.t 17), (some 18), none⟩, ⟨.load false 1 (.t 18), (some 19), none⟩, ⟨.mv (.t 1), (some 20), none⟩, ⟨.mv (.t 5), (some 21), none⟩, ⟨.iaddr ⟨false, 1⟩ none (.t 20) (.t 21), (some 22), none⟩, ⟨.load false 1 (.t 22), (some 23), none⟩, ⟨.bin .neq (.t 19) (.t 23), (some 24), none⟩] []) <|
  .cond (.t 24) (.seq (.region [⟨.mv (.c (.bool false)), (some 4), none⟩]) <|
  .ret) (.skip))) <|
  .region [⟨.bin .add (.t 13) (.c (.int .i64 1)), (some 25), none⟩, ⟨.mv (.t 25), (some 13), none⟩]))) <|
  .seq (.region [⟨.mv (.c (.bool true)), (some 4), none⟩]) <|
  .ret
def a_slices_Equal_string : AFunc := ⟨26, [.tmp 4], b_slices_Equal_string⟩
theorem a_slices_Equal_string_ok : compileF Tryz.prog h_slices_Equal_string Tryz.f38 = some a_slices_Equal_string := by kernel_rfl
theorem of_slices_Equal_string {args : List AV} {σ : Store} {R : Out → Store → Prop} (hl : args.length ≤ 26) (h : WpR Tryz.prog b_slices_Equal_string [.tmp 4] args σ R) : CallA Tryz.prog n_slices_Equal_string args σ R := CallA.of_wp Tryz.func38 (by kernel_rfl) a_slices_Equal_string_ok hl h.go
def h_slices_Equal_int : Hints := ⟨[], [], [], [], [], []⟩
def b_slices_Equal_int : ACode := .seq (.region [⟨.mv (.c (.bool false)), (some 4), none⟩]) <|
  .seq (.seq (.region [⟨.mv (.t 0), (some 6), none⟩, ⟨.len false (.t 6), (some 7), none⟩, ⟨.mv (.t 1), (some 8), none⟩, ⟨.len false (.t 8), (some 9), none⟩, ⟨.bin .neq (.t 7) (.t 9), (some 10), none⟩]) <|
  .cond (.t 10) (.seq (.region [⟨.mv (.c (.bool false)), (some 4), none⟩]) <|
  .ret) (.skip)) <|
  .seq (.seq (.region [⟨.mv (.t 0), (some 11), none⟩, ⟨.len false (.t 11), (some 12), none⟩, ⟨.mv (.c (.int .i64 0)), (some 13), none⟩]) <|
  .block 0 (.loop (.seq (.region [⟨.bin .lss (.t 13) (.t 12), (some 14), none⟩]) <|
  .seq (.cond (.t 14) (.skip) (.exit 0)) <|
  .seq (.block 1 (.seq (.region [⟨.mv (.t 13), (some 15), none⟩, ⟨.mv (.t 15), (some 5), none⟩]) <|
  .seq (.draw [⟨.mv (.t 0), (some 16), none⟩, ⟨.mv (.t 5), (some 17), none⟩, ⟨.iaddr ⟨false, 1⟩ none (.t 16) (.t 17), (some 18), none⟩, ⟨.load false 1 (.t 18), (some 19), none⟩, ⟨.mv (.t 1), (some 20), none⟩, ⟨.mv (.t 5), (some 21), none⟩, ⟨.iaddr ⟨false, 1⟩ none (.t 20) (.t 21), (some 22), none⟩, ⟨.load false 1 (.t 22), (some 23), none⟩, ⟨.bin .neq (.t 19) (.t 23), (some 24), none⟩] []) <|
  .cond (.t 24) (.seq (.region [⟨.mv (.c (.bool false)), (some 4), none⟩]) <|
  .ret) (.skip))) <|
  .region [⟨.bin .add (.t 13) (.c (.int .i64 1)), (some 25), none⟩, ⟨.mv (.t 25), (some 13), none⟩]))) <|
  .seq (.region [⟨.mv (.c (.bool true)), (some 4), none⟩]) <|
  .ret
def a_slices_Equal_int : AFunc := ⟨26, [.tmp 4], b_slices_Equal_int⟩
theorem a_slices_Equal_int_ok : compileF Tryz.prog h_slices_Equal_int Tryz.f39 = some a_slices_Equal_int := by kernel_rfl
theorem of_slices_Equal_int {args : List AV} {σ : Store} {R : Out → Store → Prop} (hl : args.length ≤ 26) (h : WpR Tryz.prog b_slices_Equal_int [.tmp 4] args σ R) : CallA Tryz.prog n_slices_Equal_int args σ R := CallA.of_wp Tryz.func39 (by kernel_rfl) a_slices_Equal_int_ok hl h.go
def h_slices_EqualFunc_LValue : Hints := ⟨[], [], [], [], [], []⟩
def b_slices_EqualFunc_LValue : ACode := .seq (.region [⟨.mv (.c (.bool false)), (some 6), none⟩]) <|
  .seq (.seq (.region [⟨.mv (.t 0), (some 10), none⟩, ⟨.len false (.t 10), (some 11), none⟩, ⟨.mv (.t 1), (some 12), none⟩, ⟨.len false (.t 12), (some 13), none⟩, ⟨.bin .neq (.t 11) (.t 13), (some 14), none⟩]) <|
  .cond (.t 14) (.seq (.region [⟨.mv (.c (.bool false)), (some 6), none⟩]) <|
  .ret) (.skip)) <|
  .seq (.seq (.region [⟨.mv (.t 0), (some 15), none⟩, ⟨.len false (.t 15), (some 16), none⟩, ⟨.mv (.c (.int .i64 0)), (some 17), none⟩]) <|
  .block 0 (.loop (.seq (.region [⟨.bin .lss (.t 17) (.t 16), (some 18), none⟩]) <|
  .seq (.cond (.t 18) (.skip) (.exit 0)) <|
  .seq (.block 1 (.seq (.region [⟨.mv (.t 17), (some 19), none⟩, ⟨.iaddr ⟨false, 1⟩ none (.t 15) (.t 17), (some 20), none⟩, ⟨.load false 1 (.t 20), (some 21), none⟩, ⟨.mv (.t 19), (some 7), none⟩, ⟨.mv (.t 21), (some 8), none⟩]) <|
  .seq (.region [⟨.mv (.t 1), (some 22), none⟩, ⟨.mv (.t 7), (some 23), none⟩, ⟨.iaddr ⟨false, 1⟩ none (.t 22) (.t 23), (some 24), none⟩, ⟨.load false 1 (.t 24), (some 25), none⟩, ⟨.mv (.t 25), (some 9), none⟩]) <|
  .seq (.region [⟨.mv (.t 2), (some 26), none⟩, ⟨.mv (.t 8), (some 27), none⟩, ⟨.mv (.t 9), (some 28), none⟩, ⟨.call false (.t 26) [(.t 27), (.t 28)], (some 29), none⟩, ⟨.un .not (.t 29), (some 30), none⟩]) <|
  .cond (.t 30) (.seq (.region [⟨.mv (.c (.bool false)), (some 6), none⟩]) <|
  .ret) (.skip))) <|
  .region [⟨.bin .add (.t 17) (.c (.int .i64 1)), (some 31), none⟩, ⟨.mv (.t 31), (some 17), none⟩]))) <|
  .seq (.region [⟨.mv (.c (.bool true)), (some 6), none⟩]) <|
  .ret
def a_slices_EqualFunc_LValue : AFunc := ⟨32, [.tmp 6], b_slices_EqualFunc_LValue⟩
theorem a_slices_EqualFunc_LValue_ok : compileF Tryz.prog h_slices_EqualFunc_LValue Tryz.f40 = some a_slices_EqualFunc_LValue := by kernel_rfl
theorem of_slices_EqualFunc_LValue {args : List AV} {σ : Store} {R : Out → Store → Prop} (hl : args.length ≤ 32) (h : WpR Tryz.prog b_slices_EqualFunc_LValue [.tmp 6] args σ R) : CallA Tryz.prog n_slices_EqualFunc_LValue args σ R := CallA.of_wp Tryz.func40 (by kernel_rfl) a_slices_EqualFunc_LValue_ok hl h.go
def h_hit_Same_1 : Hints := ⟨[], [], [], [], [], []⟩
def b_hit_Same_1 : ACode := .seq (.region [⟨.mv (.c (.bool false)), (some 4), none⟩]) <|
  .seq (.region [⟨.mv (.t 0), (some 5), none⟩, ⟨.mv (.t 1), (some 6), none⟩, ⟨.call false (.c (.fn (.func n_slices_Equal_Value) [] [])) [(.t 5), (.t 6)], (some 7), none⟩, ⟨.mv (.t 7), (some 4), none⟩]) <|
  .ret
def a_hit_Same_1 : AFunc := ⟨8, [.tmp 4], b_hit_Same_1⟩
theorem a_hit_Same_1_ok : compileF Tryz.prog h_hit_Same_1 Tryz.f41 = some a_hit_Same_1 := by kernel_rfl
theorem of_hit_Same_1 {args : List AV} {σ : Store} {R : Out → Store → Prop} (hl : args.length ≤ 8) (h : WpR Tryz.prog b_hit_Same_1 [.tmp 4] args σ R) : CallA Tryz.prog n_hit_Same_1 args σ R := CallA.of_wp Tryz.func41 (by kernel_rfl) a_hit_Same_1_ok hl h.go
end Go.Proofs.YtophdhenjdlbeaaGreatDoor
namespace Go.Proofs.YtophdhenjdlbeaaGreatDoor
open Go.AM
set_option maxRecDepth 10000
end Go.Proofs.YtophdhenjdlbeaaGreatDoor
namespace Go.Proofs.YtophdhenjdlbeaaGreatDoor
open Go.AM
set_option maxRecDepth 10000
end Go.Proofs.YtophdhenjdlbeaaGreatDoor
namespace Go.Proofs.YtophdhenjdlbeaaGreatDoor
open Go.AM
set_option maxRecDepth 10000
end Go.Proofs.YtophdhenjdlbeaaGreatDoor
namespace Go.Proofs.YtophdhenjdlbeaaGreatDoor
open Go.AM
set_option maxRecDepth 4000
theorem before_succ {q : Nat → Prop} {i : Nat} (h : ∀ k, k < i → q k) (hi : q i) : ∀ k, k < i + 1 → q k := fun k hk => by
  by_cases h2 : k < i
  · exact h k h2
  · have : k = i := by omega
    subst this; exact hi
def eqL {α β : Type} (p : α → β → Bool) : List α → List β → Bool
  | [], [] => true
  | x :: r, y :: t => p x y && eqL p r t
  | _, _ => false
theorem eqL_len {α β : Type} {p : α → β → Bool} : ∀ {l : List α} {m : List β}, l.length ≠ m.length → eqL p l m = false
  | [], [], h => absurd rfl h
  | [], _ :: _, _ => rfl
  | _ :: _, [], _ => rfl
  | x :: r, y :: t, h => by simp only [eqL]; rw [eqL_len (by simpa using h), Bool.and_false]
theorem eqL_at {α β : Type} [Inhabited α] [Inhabited β] {p : α → β → Bool} : ∀ {l : List α} {m : List β} {i : Nat}, i < l.length → p (l.getD i default) (m.getD i default) = false → i < m.length → eqL p l m = false
  | x :: r, y :: t, 0, _, h, _ => by simp only [List.getD_cons_zero] at h; simp only [eqL, h, Bool.false_and]
  | x :: r, y :: t, i + 1, h1, h, h2 => by
    simp only [List.getD_cons_succ] at h
    simp only [eqL]; rw [eqL_at (i := i) (by simpa using h1) h (by simpa using h2), Bool.and_false]
theorem eqL_non {α β : Type} [Inhabited α] [Inhabited β] {p : α → β → Bool} : ∀ {l : List α} {m : List β}, l.length = m.length → (∀ k, k < l.length → p (l.getD k default) (m.getD k default) = true) → eqL p l m = true
  | [], [], _, _ => rfl
  | x :: r, y :: t, h, hp => by
    have h0 := hp 0 (by simp)
    simp only [List.getD_cons_zero] at h0
    simp only [eqL, h0, Bool.true_and]
    exact eqL_non (by simpa using h) (fun k hk => by have := hp (k + 1) (by simpa using hk); simpa only [List.getD_cons_succ] using this)
@[go_sem] theorem last2a {α : Type} (τ : List α) (c d : α) : (τ ++ [c] ++ [d])[τ.length + 1]? = some d := by simp
@[go_sem] theorem last2b {α : Type} (τ : List α) (c d : α) : (τ ++ [c] ++ [d])[τ.length]? = some c := by simp
@[go_sem] theorem set2a {α : Type} (τ : List α) (c d e : α) : (τ ++ [c] ++ [d]).set (τ.length + 1) e = τ ++ [c] ++ [e] := by simp
@[go_sem] theorem lastA {α : Type} (τ : List α) (d : α) : (τ ++ [d])[τ.length]? = some d := by simp
@[go_sem] theorem setA {α : Type} (τ : List α) (d e : α) : (τ ++ [d]).set τ.length e = τ ++ [e] := by simp
@[go_sem] theorem set2b {α : Type} (τ : List α) (c d e : α) : (τ ++ [c] ++ [d]).set τ.length e = τ ++ [e] ++ [d] := by simp
theorem val_beq (v u : Val) : (v == u) = ((v.kind == u.kind) && (v.n == u.n) && (v.s == u.s)) := by
  obtain ⟨a, b, c⟩ := v
  obtain ⟨d, e, f⟩ := u
  rw [Bool.eq_iff_iff]; simp [and_assoc]
structure Ent where
  table : Str
  ver : Int
  input : List Val
  err : Int
  rules : List Int
  rows : List (List Val)
deriving Inhabited
def sameE (a b : Ent) : Bool := decide (a.table = b.table) && decide (a.ver = b.ver) && eqL (fun x y => x == y) a.input b.input && decide (a.err = b.err) && eqL (fun x y : Int => x == y) a.rules b.rules && eqL (eqL fun x y => x == y) a.rows b.rows
def eInt (n : Int) : AV := I n
def eInts (l : List Int) : AV := .lst false E1 (l.map eInt)
def eRows (l : List (List Val)) : AV := .lst false E1 (l.map eVals)
def cEnt (e : Ent) : List AV := [.str e.table, I e.ver, eVals e.input, I e.err, eInts e.rules, eRows e.rows]
def eEnt (e : Ent) : AV := .agg (cEnt e)
attribute [go_sem] eInt eInts eRows cEnt eEnt
theorem pur_eInts (l : List Int) : (eInts l).pur = true := by simp only [eInts, AV.pur]; exact purL_map _ _ (fun _ => rfl)
theorem pur_eRows (l : List (List Val)) : (eRows l).pur = true := by simp only [eRows, AV.pur]; exact purL_map _ _ pur_eVals
theorem purL_i (l : List Int) : AV.purL (l.map eInt) = true := purL_map _ _ (fun _ => rfl)
theorem purL_r (l : List (List Val)) : AV.purL (l.map eVals) = true := purL_map _ _ pur_eVals
theorem pur_eEnt (e : Ent) : (eEnt e).pur = true := by simp [eEnt, cEnt, AV.pur, AV.purL, pur_eInts, pur_eRows]
attribute [simp] pur_eInts pur_eRows purL_i purL_r pur_eEnt
theorem slices_EqualFunc_Column (fn : FuncId) (cap : List AV) (hcap : AV.purL cap = true) (p : Col → Col → Bool) (l m : List Col)
    (h : ∀ k, k < l.length → k < m.length → CallF Tryz.prog fn (eCol (l.getD k default) :: eCol (m.getD k default) :: cap) (.bool (p (l.getD k default) (m.getD k default)))) (hl : l.length ≤ 2 ^ 62) (hm : m.length ≤ 2 ^ 62) :
    CallF Tryz.prog n_slices_EqualFunc_Column [eCols l, eCols m, .fn (.func fn) [] cap] (.bool (eqL p l m)) := by
  refine CallF.of_nil (of_slices_EqualFunc_Column (by simp) ?_) (by simp [AV.pur, AV.purL, hcap, pur_eCols])
  unfold b_slices_EqualFunc_Column WpR
  intro Q hQr hQn hQp
  repeat' first | refine go_ ?_ | refine br_ (fun hw => ?_) (fun hw => ?_) <;> try omega | fail
  · refine leafE ?_ rfl
    rw [eqL_len (by omega)]
  have hlm : l.length = m.length := by omega
  with_reducible refine loop_i [6, 7, 8, 9, 17, 18, 19, 20, 21, 22, 23, 24, 25, 26, 27, 28, 29, 30, 31] (fun p : Nat × List AObj => [(17, I p.1)]) (fun p => p.2) (fun q => q.1 ≤ l.length ∧ ∀ k, k < q.1 → p (l.getD k default) (m.getD k default) = true) (fun p => l.length - p.1) (0, []) ?_ ?_ ?_ ?_
  · simp
  · rfl
  · exact at_
  rintro ⟨i, τ⟩ r ⟨h1, h2⟩
  dsimp only at h1 h2
  by_cases hi : i < l.length
  · have hy := h i hi (by omega)
    simp only [eTest, eCol, eRule, eLine, eCell, eExprs, eTests, eVals, eStrs, eCells] at hy
    repeat' first | refine go_ ?_ | refine cf_ hy ?_ | refine br_ (fun hw => ?_) (fun hw => ?_) <;> try omega | fail
    · refine leafE ?_ rfl
      rw [eqL_at hi hw (by omega)]
    · refine ⟨(i + 1, τ ++ [.cells [.str (l.getD i default).name, I (l.getD i default).kind, .lst false EV ((l.getD i default).order.map eVal)]] ++ [.cells [.str (m.getD i default).name, I (m.getD i default).kind, .lst false EV ((m.getD i default).order.map eVal)]]), ?_, ?_, by first | rfl | (simp [go_sem]; done), ou_, at_⟩ <;> (try dsimp only)
      · exact ⟨by omega, before_succ h2 hw⟩
      · omega
  · repeat' first | refine go_ ?_ | refine br_ (fun hw => ?_) (fun hw => ?_) <;> try omega | fail
    refine leafE ?_ rfl
    rw [eqL_non hlm (fun k hk => h2 k (by omega))]
theorem slices_EqualFunc_Rule (fn : FuncId) (cap : List AV) (hcap : AV.purL cap = true) (p : Rule → Rule → Bool) (l m : List Rule)
    (h : ∀ k, k < l.length → k < m.length → CallF Tryz.prog fn (eRule (l.getD k default) :: eRule (m.getD k default) :: cap) (.bool (p (l.getD k default) (m.getD k default)))) (hl : l.length ≤ 2 ^ 62) (hm : m.length ≤ 2 ^ 62) :
    CallF Tryz.prog n_slices_EqualFunc_Rule [eRules l, eRules m, .fn (.func fn) [] cap] (.bool (eqL p l m)) := by
  refine CallF.of_nil (of_slices_EqualFunc_Rule (by simp) ?_) (by simp [AV.pur, AV.purL, hcap, pur_eRules])
  unfold b_slices_EqualFunc_Rule WpR
  intro Q hQr hQn hQp
  repeat' first | refine go_ ?_ | refine br_ (fun hw => ?_) (fun hw => ?_) <;> try omega | fail
  · refine leafE ?_ rfl
    rw [eqL_len (by omega)]
  have hlm : l.length = m.length := by omega
  with_reducible refine loop_i [6, 7, 8, 9, 17, 18, 19, 20, 21, 22, 23, 24, 25, 26, 27, 28, 29, 30, 31] (fun p : Nat × List AObj => [(17, I p.1)]) (fun p => p.2) (fun q => q.1 ≤ l.length ∧ ∀ k, k < q.1 → p (l.getD k default) (m.getD k default) = true) (fun p => l.length - p.1) (0, []) ?_ ?_ ?_ ?_
  · simp
  · rfl
  · exact at_
  rintro ⟨i, τ⟩ r ⟨h1, h2⟩
  dsimp only at h1 h2
  by_cases hi : i < l.length
  · have hy := h i hi (by omega)
    simp only [eTest, eCol, eRule, eLine, eCell, eExprs, eTests, eVals, eStrs, eCells] at hy
    repeat' first | refine go_ ?_ | refine cf_ hy ?_ | refine br_ (fun hw => ?_) (fun hw => ?_) <;> try omega | fail
    · refine leafE ?_ rfl
      rw [eqL_at hi hw (by omega)]
    · refine ⟨(i + 1, τ ++ [.cells [.lst false E1 ((l.getD i default).cells.map eStr), .lst false E1 ((l.getD i default).outs.map eStr)]] ++ [.cells [.lst false E1 ((m.getD i default).cells.map eStr), .lst false E1 ((m.getD i default).outs.map eStr)]]), ?_, ?_, by first | rfl | (simp [go_sem]; done), ou_, at_⟩ <;> (try dsimp only)
      · exact ⟨by omega, before_succ h2 hw⟩
      · omega
  · repeat' first | refine go_ ?_ | refine br_ (fun hw => ?_) (fun hw => ?_) <;> try omega | fail
    refine leafE ?_ rfl
    rw [eqL_non hlm (fun k hk => h2 k (by omega))]
theorem slices_Equal_Value (l m : List Val) (hl : l.length ≤ 2 ^ 60) (hm : m.length ≤ 2 ^ 60) : CallF Tryz.prog n_slices_Equal_Value [eVals l, eVals m] (.bool (eqL (fun a b => a == b) l m)) := by
  simp only [eVals]
  refine CallF.of_nil (of_slices_Equal_Value (by simp) ?_) (by simp)
  unfold b_slices_Equal_Value WpR
  intro Q hQr hQn hQp
  repeat' first | refine go_ ?_ | refine br_ (fun hw => ?_) (fun hw => ?_) <;> try omega | fail
  · refine leafE ?_ rfl
    rw [eqL_len (by omega)]
  have hlm : l.length = m.length := by omega
  with_reducible refine loop_i [4, 5, 13, 14, 15, 16, 17, 18, 19, 20, 21, 22, 23, 24, 25] (fun i : Nat => [(13, I i)]) (fun _ => []) (fun i => i ≤ l.length ∧ ∀ k, k < i → (l.getD k default == m.getD k default) = true) (fun i => l.length - i) (0) ?_ ?_ ?_ ?_
  · simp
  · rfl
  · exact at_
  rintro i r ⟨h1, h2⟩
  by_cases hi : i < l.length
  · have hb := val_beq (l.getD i default) (m.getD i default)
    repeat' first | refine go_ ?_ | refine br_ (fun hw => ?_) (fun hw => ?_) <;> try omega | fail
    · refine leafE ?_ rfl
      rw [eqL_at (p := fun a b => a == b) hi (by rw [hb, ← Bool.not_eq_true]; simp_all) (by omega)]
    · refine ⟨i + 1, ?_, ?_, by first | rfl | (simp [go_sem]; done), ou_, at_⟩ <;> (try dsimp only)
      · exact ⟨by omega, before_succ h2 (by rw [hb]; simp_all)⟩
      · omega
  · repeat' first | refine go_ ?_ | refine br_ (fun hw => ?_) (fun hw => ?_) <;> try omega | fail
    refine leafE ?_ rfl
    rw [eqL_non (p := fun a b => a == b) hlm (fun k hk => h2 k (by omega))]
theorem slices_Equal_string (l m : List Str) (hl : l.length ≤ 2 ^ 60) (hm : m.length ≤ 2 ^ 60) : CallF Tryz.prog n_slices_Equal_string [eStrs l, eStrs m] (.bool (eqL (fun a b => a == b) l m)) := by
  simp only [eStrs]
  refine CallF.of_nil (of_slices_Equal_string (by simp) ?_) (by simp)
  unfold b_slices_Equal_string WpR
  intro Q hQr hQn hQp
  repeat' first | refine go_ ?_ | refine br_ (fun hw => ?_) (fun hw => ?_) <;> try omega | fail
  · refine leafE ?_ rfl
    rw [eqL_len (by omega)]
  have hlm : l.length = m.length := by omega
  with_reducible refine loop_i [4, 5, 13, 14, 15, 16, 17, 18, 19, 20, 21, 22, 23, 24, 25] (fun i : Nat => [(13, I i)]) (fun _ => []) (fun i => i ≤ l.length ∧ ∀ k, k < i → (l.getD k default == m.getD k default) = true) (fun i => l.length - i) (0) ?_ ?_ ?_ ?_
  · simp
  · rfl
  · exact at_
  rintro i r ⟨h1, h2⟩
  by_cases hi : i < l.length
  · repeat' first | refine go_ ?_ | refine br_ (fun hw => ?_) (fun hw => ?_) <;> try omega | fail
    · refine leafE ?_ rfl
      rw [eqL_at (p := fun a b => a == b) hi (by rw [← Bool.not_eq_true]; simp_all) (by omega)]
    · refine ⟨i + 1, ?_, ?_, by first | rfl | (simp [go_sem]; done), ou_, at_⟩ <;> (try dsimp only)
      · exact ⟨by omega, before_succ h2 (by simp_all)⟩
      · omega
  · repeat' first | refine go_ ?_ | refine br_ (fun hw => ?_) (fun hw => ?_) <;> try omega | fail
    refine leafE ?_ rfl
    rw [eqL_non (p := fun a b => a == b) hlm (fun k hk => h2 k (by omega))]
theorem ref01_SameTexts (l m : List Str) (hl : l.length ≤ 2 ^ 60) (hm : m.length ≤ 2 ^ 60) : CallF Tryz.prog n_ref01_SameTexts [eStrs l, eStrs m] (.bool (eqL (fun a b => a == b) l m)) := by
  simp only [eStrs]
  refine CallF.of_nil (of_ref01_SameTexts (by simp) ?_) (by simp)
  unfold b_ref01_SameTexts WpR
  intro Q hQr hQn hQp
  repeat' first | refine go_ ?_ | refine br_ (fun hw => ?_) (fun hw => ?_) <;> try omega | fail
  · refine leafE ?_ rfl
    rw [eqL_len (by omega)]
  have hlm : l.length = m.length := by omega
  with_reducible refine loop_i [4, 5, 11, 12, 13, 14, 15, 16, 17, 18, 19, 20, 21, 22, 23, 24, 25] (fun i : Nat => [(5, I i)]) (fun _ => []) (fun i => i ≤ l.length ∧ ∀ k, k < i → (l.getD k default == m.getD k default) = true) (fun i => l.length - i) (0) ?_ ?_ ?_ ?_
  · simp
  · rfl
  · exact at_
  rintro i r ⟨h1, h2⟩
  by_cases hi : i < l.length
  · repeat' first | refine go_ ?_ | refine br_ (fun hw => ?_) (fun hw => ?_) <;> try omega | fail
    · refine leafE ?_ rfl
      rw [eqL_at (p := fun a b => a == b) hi (by rw [← Bool.not_eq_true]; simp_all) (by omega)]
    · refine ⟨i + 1, ?_, ?_, by first | rfl | (simp [go_sem]; done), ou_, at_⟩ <;> (try dsimp only)
      · exact ⟨by omega, before_succ h2 (by simp_all)⟩
      · omega
  · repeat' first | refine go_ ?_ | refine br_ (fun hw => ?_) (fun hw => ?_) <;> try omega | fail
    refine leafE ?_ rfl
    rw [eqL_non (p := fun a b => a == b) hlm (fun k hk => h2 k (by omega))]
theorem ref12_SameRow (l m : List Val) (hl : l.length ≤ 2 ^ 60) (hm : m.length ≤ 2 ^ 60) : CallF Tryz.prog n_ref12_SameRow [eVals l, eVals m] (.bool (eqL (fun a b => a == b) l m)) := by
  simp only [eVals]
  refine CallF.of_nil (of_ref12_SameRow (by simp) ?_) (by simp)
  unfold b_ref12_SameRow WpR
  intro Q hQr hQn hQp
  repeat' first | refine go_ ?_ | refine br_ (fun hw => ?_) (fun hw => ?_) <;> try omega | fail
  · refine leafE ?_ rfl
    rw [eqL_len (by omega)]
  have hlm : l.length = m.length := by omega
  with_reducible refine loop_i [4, 5, 11, 12, 13, 14, 15, 16, 17, 18, 19, 20, 21, 22, 23, 24, 25] (fun i : Nat => [(5, I i)]) (fun _ => []) (fun i => i ≤ l.length ∧ ∀ k, k < i → (l.getD k default == m.getD k default) = true) (fun i => l.length - i) (0) ?_ ?_ ?_ ?_
  · simp
  · rfl
  · exact at_
  rintro i r ⟨h1, h2⟩
  by_cases hi : i < l.length
  · have hb := val_beq (l.getD i default) (m.getD i default)
    repeat' first | refine go_ ?_ | refine br_ (fun hw => ?_) (fun hw => ?_) <;> try omega | fail
    · refine leafE ?_ rfl
      rw [eqL_at (p := fun a b => a == b) hi (by rw [hb, ← Bool.not_eq_true]; simp_all) (by omega)]
    · refine ⟨i + 1, ?_, ?_, by first | rfl | (simp [go_sem]; done), ou_, at_⟩ <;> (try dsimp only)
      · exact ⟨by omega, before_succ h2 (by rw [hb]; simp_all)⟩
      · omega
  · repeat' first | refine go_ ?_ | refine br_ (fun hw => ?_) (fun hw => ?_) <;> try omega | fail
    refine leafE ?_ rfl
    rw [eqL_non (p := fun a b => a == b) hlm (fun k hk => h2 k (by omega))]
theorem ref01_SameInts (l m : List Int) (hl : l.length ≤ 2 ^ 60) (hm : m.length ≤ 2 ^ 60) : CallF Tryz.prog n_ref01_SameInts [eInts l, eInts m] (.bool (eqL (fun a b => a == b) l m)) := by
  simp only [eInts]
  refine CallF.of_nil (of_ref01_SameInts (by simp) ?_) (by simp)
  unfold b_ref01_SameInts WpR
  intro Q hQr hQn hQp
  repeat' first | refine go_ ?_ | refine br_ (fun hw => ?_) (fun hw => ?_) <;> try omega | fail
  · refine leafE ?_ rfl
    rw [eqL_len (by omega)]
  have hlm : l.length = m.length := by omega
  with_reducible refine loop_i [4, 5, 11, 12, 13, 14, 15, 16, 17, 18, 19, 20, 21, 22, 23, 24, 25] (fun i : Nat => [(5, I i)]) (fun _ => []) (fun i => i ≤ l.length ∧ ∀ k, k < i → (l.getD k default == m.getD k default) = true) (fun i => l.length - i) (0) ?_ ?_ ?_ ?_
  · simp
  · rfl
  · exact at_
  rintro i r ⟨h1, h2⟩
  by_cases hi : i < l.length
  · repeat' first | refine go_ ?_ | refine br_ (fun hw => ?_) (fun hw => ?_) <;> try omega | fail
    · refine leafE ?_ rfl
      rw [eqL_at (p := fun a b => a == b) hi (by rw [← Bool.not_eq_true]; simp_all) (by omega)]
    · refine ⟨i + 1, ?_, ?_, by first | rfl | (simp [go_sem]; done), ou_, at_⟩ <;> (try dsimp only)
      · exact ⟨by omega, before_succ h2 (by simp_all)⟩
      · omega
  · repeat' first | refine go_ ?_ | refine br_ (fun hw => ?_) (fun hw => ?_) <;> try omega | fail
    refine leafE ?_ rfl
    rw [eqL_non (p := fun a b => a == b) hlm (fun k hk => h2 k (by omega))]
theorem ref20_SameRows (l m : List (List Val)) (hl : l.length ≤ 2 ^ 60) (hm : m.length ≤ 2 ^ 60) (hl2 : ∀ r ∈ l, r.length ≤ 2 ^ 60) (hm2 : ∀ r ∈ m, r.length ≤ 2 ^ 60) : CallF Tryz.prog n_ref20_SameRows [eRows l, eRows m] (.bool (eqL (eqL fun a b => a == b) l m)) := by
  simp only [eRows]
  refine CallF.of_nil (of_ref20_SameRows (by simp) ?_) (by simp)
  unfold b_ref20_SameRows WpR
  intro Q hQr hQn hQp
  repeat' first | refine go_ ?_ | refine br_ (fun hw => ?_) (fun hw => ?_) <;> try omega | fail
  · refine leafE ?_ rfl
    rw [eqL_len (by omega)]
  have hlm : l.length = m.length := by omega
  with_reducible refine loop_i [4, 5, 11, 12, 13, 14, 15, 16, 17, 18, 19, 20, 21, 22, 23, 24, 25, 26] (fun i : Nat => [(5, I i)]) (fun _ => []) (fun i => i ≤ l.length ∧ ∀ k, k < i → eqL (fun a b => a == b) (l.getD k default) (m.getD k default) = true) (fun i => l.length - i) (0) ?_ ?_ ?_ ?_
  · simp
  · rfl
  · exact at_
  rintro i r ⟨h1, h2⟩
  by_cases hi : i < l.length
  · have c := ref12_SameRow _ _ (hl2 _ (getD_mem hi)) (hm2 _ (getD_mem (show i < m.length by omega)))
    have hne := fun h => eqL_at (p := eqL fun a b => a == b) hi h (show i < m.length by omega)
    have hbs := fun he => before_succ (q := fun k => eqL (fun a b => a == b) (l.getD k default) (m.getD k default) = true) h2 (i := i) he
    generalize eqL (fun a b => a == b) (l.getD i default) (m.getD i default) = v at c hne hbs
    simp only [eVals] at c
    repeat' first | refine go_ ?_ | refine cf_ c ?_ | refine br_ (fun hw => ?_) (fun hw => ?_) <;> try omega | fail
    all_goals first
      | exact ab_
      | (refine leafE ?_ rfl; rw [hne (by simp_all)])
      | (refine ⟨i + 1, ?_, ?_, ?_, ou_, at_⟩ <;> (try dsimp only)
         · exact ⟨by omega, hbs (by simp_all)⟩
         · omega
         all_goals (first | rfl | (simp [go_sem]; done)))
  · repeat' first | refine go_ ?_ | refine br_ (fun hw => ?_) (fun hw => ?_) <;> try omega | fail
    refine leafE ?_ rfl
    rw [eqL_non hlm (fun k hk => h2 k (by omega))]
def smE (e : Ent) : Prop := e.input.length ≤ 2 ^ 60 ∧ e.rules.length ≤ 2 ^ 60 ∧ e.rows.length ≤ 2 ^ 60 ∧ ∀ r ∈ e.rows, r.length ≤ 2 ^ 60
def cOut (e : Ent) : List AV := [I e.err, eInts e.rules, eRows e.rows]
theorem ref20_Same (a b : Ent) (ha : smE a) (hb : smE b) : CallF Tryz.prog n_ref20_Same [.agg (cOut a), .agg (cOut b)] (.bool (decide (a.err = b.err) && eqL (fun x y => x == y) a.rules b.rules && eqL (eqL fun x y => x == y) a.rows b.rows)) := by
  have c1 := ref01_SameInts a.rules b.rules ha.2.1 hb.2.1
  have c2 := ref20_SameRows a.rows b.rows ha.2.2.1 hb.2.2.1 ha.2.2.2 hb.2.2.2
  generalize eqL (fun x y => x == y) a.rules b.rules = v1 at *
  generalize eqL (eqL fun x y => x == y) a.rows b.rows = v2 at *
  obtain ⟨n, hn⟩ : ∃ n, a.err = n := ⟨_, rfl⟩
  obtain ⟨m, hm⟩ : ∃ n, b.err = n := ⟨_, rfl⟩
  simp only [cOut, hn, hm, eInts, eRows] at c1 c2 ⊢
  refine CallF.of_nil (of_ref20_Same (by simp) ?_) (by simp)
  unfold b_ref20_Same WpR
  intro Q hQr hQn hQp
  repeat' first | refine go_ ?_ | refine cf_ c1 ?_ | refine cf_ c2 ?_ | refine br_ (fun hw => ?_) (fun hw => ?_) <;> try omega | fail
  all_goals first | exact ab_ | skip
  all_goals (refine leafE ?_ rfl; simp_all)
theorem ref21_Same (a b : Ent) (ha : smE a) (hb : smE b) : CallF Tryz.prog n_ref21_Same [eEnt a, eEnt b] (.bool (sameE a b)) := by
  have c1 := ref12_SameRow a.input b.input ha.1 hb.1
  have c2 := ref20_Same a b ha hb
  have e : sameE a b = (decide (a.table = b.table) && decide (a.ver = b.ver) && eqL (fun x y => x == y) a.input b.input && (decide (a.err = b.err) && eqL (fun x y => x == y) a.rules b.rules && eqL (eqL fun x y => x == y) a.rows b.rows)) := by
    unfold sameE; simp only [Bool.and_assoc]
  rw [e]; clear e
  generalize eqL (fun x y => x == y) a.input b.input = v1 at *
  generalize (decide (a.err = b.err) && eqL (fun x y => x == y) a.rules b.rules && eqL (eqL fun x y => x == y) a.rows b.rows) = v2 at *
  simp only [eEnt, cEnt, cOut, eInts, eRows, eVals] at c1 c2 ⊢
  refine CallF.of_nil (of_ref21_Same (by simp) ?_) (by simp)
  unfold b_ref21_Same WpR
  intro Q hQr hQn hQp
  repeat' first | refine go_ ?_ | refine cf_ c1 ?_ | refine cv_ c2 ?_ | refine br_ (fun hw => ?_) (fun hw => ?_) <;> try omega | fail
  all_goals first | exact ab_ | skip
  all_goals (refine leafE ?_ rfl; simp_all)
def sameCol (a b : Col) : Bool := a.name == b.name && decide (a.kind = b.kind) && eqL (fun x y => x == y) a.order b.order
def sameRule (a b : Rule) : Bool := eqL (fun x y => x == y) a.cells b.cells && eqL (fun x y => x == y) a.outs b.outs
def sameTab (a b : Table) : Bool := a.name == b.name && decide (a.policy = b.policy) && decide (a.agg = b.agg) && eqL sameCol a.ins b.ins && eqL sameCol a.outs b.outs && eqL sameRule a.rules b.rules
def smCols (l : List Col) : Prop := l.length ≤ 2 ^ 60 ∧ ∀ c ∈ l, c.order.length ≤ 2 ^ 60
def smRule (r : Rule) : Prop := r.cells.length ≤ 2 ^ 60 ∧ r.outs.length ≤ 2 ^ 60
def smTab (t : Table) : Prop := smCols t.ins ∧ smCols t.outs ∧ t.rules.length ≤ 2 ^ 60 ∧ ∀ r ∈ t.rules, smRule r
theorem dtable_sameColumn (a b : Col) (ha : a.order.length ≤ 2 ^ 60) (hb : b.order.length ≤ 2 ^ 60) : CallF Tryz.prog n_dtable_sameColumn [eCol a, eCol b] (.bool (sameCol a b)) := by
  have c := slices_Equal_Value a.order b.order ha hb
  have hS : sameCol a b = (a.name == b.name && decide (a.kind = b.kind) && eqL (fun x y => x == y) a.order b.order) := rfl
  rw [hS]
  clear hS
  generalize eqL (fun x y => x == y) a.order b.order = v at *
  simp only [eCol, eVals] at c ⊢
  refine CallF.of_nil (of_dtable_sameColumn (by simp) ?_) (by simp)
  unfold b_dtable_sameColumn WpR
  intro Q hQr hQn hQp
  repeat' first | refine go_ ?_ | refine cf_ c ?_ | refine br_ (fun hw => ?_) (fun hw => ?_) <;> try omega | fail
  all_goals (refine leafE ?_ rfl; refine congrArg AV.bool ?_; rw [Bool.eq_iff_iff]; simp_all)
theorem dtable_sameRule (a b : Rule) (ha : smRule a) (hb : smRule b) : CallF Tryz.prog n_dtable_sameRule [eRule a, eRule b] (.bool (sameRule a b)) := by
  have c1 := slices_Equal_string a.cells b.cells ha.1 hb.1
  have c2 := slices_Equal_string a.outs b.outs ha.2 hb.2
  have hS : sameRule a b = (eqL (fun x y => x == y) a.cells b.cells && eqL (fun x y => x == y) a.outs b.outs) := rfl
  rw [hS]
  clear hS
  generalize eqL (fun x y => x == y) a.cells b.cells = v at *
  generalize eqL (fun x y => x == y) a.outs b.outs = u at *
  simp only [eRule, eStrs] at c1 c2 ⊢
  refine CallF.of_nil (of_dtable_sameRule (by simp) ?_) (by simp)
  unfold b_dtable_sameRule WpR
  intro Q hQr hQn hQp
  repeat' first | refine go_ ?_ | refine cf_ c1 ?_ | refine cf_ c2 ?_ | refine br_ (fun hw => ?_) (fun hw => ?_) <;> try omega | fail
  all_goals (refine leafE ?_ rfl; refine congrArg AV.bool ?_; rw [Bool.eq_iff_iff]; simp_all)
theorem ref18_sameColumns (l m : List Col) (hl : smCols l) (hm : smCols m) : CallF Tryz.prog n_ref18_sameColumns [eCols l, eCols m] (.bool (eqL sameCol l m)) := by
  obtain ⟨hl1, hl2⟩ := hl
  obtain ⟨hm1, hm2⟩ := hm
  simp only [eCols]
  refine CallF.of_nil (of_ref18_sameColumns (by simp) ?_) (by simp)
  unfold b_ref18_sameColumns WpR
  intro Q hQr hQn hQp
  repeat' first | refine go_ ?_ | refine br_ (fun hw => ?_) (fun hw => ?_) <;> try omega | fail
  · refine leafE ?_ rfl
    rw [eqL_len (by omega)]
  have hlm : l.length = m.length := by omega
  with_reducible refine loop_i [4, 5, 11, 12, 13, 14, 15, 16, 17, 18, 19, 20, 21, 22, 23, 24, 25, 26, 27, 28, 29, 30, 31, 32, 33, 34, 35, 36, 37, 38, 39, 40, 41, 42, 43, 44, 45, 46, 47, 48, 49, 50, 51, 52, 53, 54] (fun i : Nat => [(5, I i)]) (fun _ => []) (fun i => i ≤ l.length ∧ ∀ k, k < i → sameCol (l.getD k default) (m.getD k default) = true) (fun i => l.length - i) (0) ?_ ?_ ?_ ?_
  · simp
  · rfl
  · exact at_
  rintro i r ⟨h1, h2⟩
  by_cases hi : i < l.length
  · have hi' : i < m.length := by omega
    have hne : sameCol (l.getD i default) (m.getD i default) = false → eqL sameCol l m = false := fun h => eqL_at hi h hi'
    have hbs := fun he => before_succ h2 (i := i) he
    have c := ref12_SameRow (l.getD i default).order (m.getD i default).order (hl2 _ (getD_mem hi)) (hm2 _ (getD_mem hi'))
    obtain ⟨a, haq⟩ : ∃ t, l.getD i default = t := ⟨_, rfl⟩
    obtain ⟨b, hbq⟩ : ∃ t, m.getD i default = t := ⟨_, rfl⟩
    rw [haq] at hne hbs c
    rw [hbq] at hne hbs c
    simp only [sameCol] at hne hbs
    generalize eqL (fun x y => x == y) a.order b.order = v at *
    simp only [eVals] at c
    repeat' first | simp (disch := omega) only [go_sem, hQr, hQn, hQp, wrapK_i64, wrapK_u8, wrapK_u64, Nat.reduceAdd, Nat.reduceBEq, ↓reduceIte, haq, hbq] | refine go_ ?_ | refine cf_ c ?_ | refine br_ (fun hw => ?_) (fun hw => ?_) <;> try omega | fail
    all_goals first
      | (refine leafE ?_ rfl; rw [hne (by clear hne hbs; simp_all)]; done)
      | (refine ⟨i + 1, ?_, ?_, ?_, ou_, at_⟩ <;> (try dsimp only)
         · exact ⟨by omega, hbs (by clear hne hbs; simp_all)⟩
         · omega
         all_goals (first | rfl | (simp [go_sem]; done)))
      | exact ab_
  · repeat' first | refine go_ ?_ | refine br_ (fun hw => ?_) (fun hw => ?_) <;> try omega | fail
    refine leafE ?_ rfl
    rw [eqL_non hlm (fun k hk => h2 k (by omega))]
theorem dtable_Same (a b : Table) (ha : smTab a) (hb : smTab b) : CallF Tryz.prog n_dtable_Same [eTable a, eTable b] (.bool (sameTab a b)) := by
  have c1 := slices_EqualFunc_Column n_dtable_sameColumn [] rfl sameCol a.ins b.ins (fun k h1 h2 => dtable_sameColumn _ _ (ha.1.2 _ (getD_mem h1)) (hb.1.2 _ (getD_mem h2))) (by have := ha.1.1; omega) (by have := hb.1.1; omega)
  have c2 := slices_EqualFunc_Column n_dtable_sameColumn [] rfl sameCol a.outs b.outs (fun k h1 h2 => dtable_sameColumn _ _ (ha.2.1.2 _ (getD_mem h1)) (hb.2.1.2 _ (getD_mem h2))) (by have := ha.2.1.1; omega) (by have := hb.2.1.1; omega)
  have c3 := slices_EqualFunc_Rule n_dtable_sameRule [] rfl sameRule a.rules b.rules (fun k h1 h2 => dtable_sameRule _ _ (ha.2.2.2 _ (getD_mem h1)) (hb.2.2.2 _ (getD_mem h2))) (by have := ha.2.2.1; omega) (by have := hb.2.2.1; omega)
  have hS : sameTab a b = (a.name == b.name && decide (a.policy = b.policy) && decide (a.agg = b.agg) && eqL sameCol a.ins b.ins && eqL sameCol a.outs b.outs && eqL sameRule a.rules b.rules) := rfl
  generalize eqL sameCol a.ins b.ins = v1 at *
  generalize eqL sameCol a.outs b.outs = v2 at *
  generalize eqL sameRule a.rules b.rules = v3 at *
  obtain ⟨E, hE⟩ : ∃ E, sameTab a b = E := ⟨_, rfl⟩
  rw [hE] at hS ⊢
  clear hE
  simp only [eTable, cTable, eCols, eRules] at c1 c2 c3 ⊢
  refine CallF.of_nil (of_dtable_Same (by simp) ?_) (by simp)
  unfold b_dtable_Same WpR
  intro Q hQr hQn hQp
  dsimp (config := { zeta := true }) only
  repeat' first | refine go_ ?_ | refine cf_ c1 ?_ | refine cf_ c2 ?_ | refine cf_ c3 ?_ | refine br_ (fun hw => ?_) (fun hw => ?_) <;> try omega | fail
  all_goals first
    | exact ab_
    | (refine leafE ?_ rfl; refine congrArg AV.bool ?_; rw [hS, Bool.eq_iff_iff]; simp_all; done)
theorem ref18_Same (a b : Table) (ha : smTab a) (hb : smTab b) : CallF Tryz.prog n_ref18_Same [eTable a, eTable b] (.bool (sameTab a b)) := by
  obtain ⟨a1, a2, a3, a4⟩ := ha
  obtain ⟨b1, b2, b3, b4⟩ := hb
  have c1 := ref18_sameColumns a.ins b.ins a1 b1
  have c2 := ref18_sameColumns a.outs b.outs a2 b2
  obtain ⟨E, hE⟩ : ∃ E, sameTab a b = E := ⟨_, rfl⟩
  rw [hE]
  have hS : (a.name == b.name && decide (a.policy = b.policy) && decide (a.agg = b.agg) && eqL sameCol a.ins b.ins && eqL sameCol a.outs b.outs && eqL sameRule a.rules b.rules) = E := hE
  clear hE
  generalize eqL sameCol a.ins b.ins = v1 at c1 hS
  generalize eqL sameCol a.outs b.outs = v2 at c2 hS
  simp only [eTable, cTable, eCols, eRules] at c1 c2 ⊢
  by_cases h0 : a.name = b.name ∧ a.policy = b.policy ∧ a.agg = b.agg ∧ a.rules.length = b.rules.length
  case neg =>
    have hE : E = false := by
      rw [← hS, Bool.eq_false_iff]
      intro h
      simp only [Bool.and_eq_true, beq_iff_eq, decide_eq_true_eq] at h
      obtain ⟨⟨⟨⟨⟨g1, g2⟩, g3⟩, g4⟩, g5⟩, g6⟩ := h
      refine h0 ⟨g1, g2, g3, ?_⟩
      by_cases hl : a.rules.length = b.rules.length
      · exact hl
      · rw [eqL_len hl] at g6; cases g6
    subst hE
    clear hS c1 c2
    refine CallF.of_nil (of_ref18_Same (by simp) ?_) (by simp)
    unfold b_ref18_Same WpR
    intro Q hQr hQn hQp
    repeat' first | refine go_ ?_ | refine br_ (fun hw => ?_) (fun hw => ?_) <;> try omega | fail
    all_goals first
      | exact leafE rfl rfl
      | exact ab_
      | (exfalso; apply h0; refine ⟨?_, ?_, ?_, ?_⟩ <;> first | assumption | omega | simp_all)
  obtain ⟨g1, g2, g3, hlm⟩ := h0
  rw [g1, g2, g3, beq_self_eq_true, decide_eq_true rfl, decide_eq_true rfl, Bool.true_and, Bool.true_and, Bool.true_and] at hS
  refine CallF.of_nil (of_ref18_Same (by simp) ?_) (by simp)
  unfold b_ref18_Same WpR
  intro Q hQr hQn hQp
  repeat' first | simp (disch := omega) only [go_sem, hQr, hQn, hQp, wrapK_i64, wrapK_u8, wrapK_u64, Nat.reduceAdd, Nat.reduceBEq, ↓reduceIte, g1, g2, g3] | refine go_ ?_ | refine br_ (fun hw => ?_) (fun hw => ?_) <;> try omega | fail
  all_goals first | (exfalso; omega) | exact ab_ | skip
  with_reducible refine loop_i [4, 5, 34, 35, 36, 37, 38, 39, 40, 41, 42, 43, 44, 45, 46, 47, 48, 49, 50, 51, 52, 53, 54, 55, 56, 57, 58, 59, 60, 61, 62, 63, 64, 65, 66, 67, 68, 69, 70] (fun i : Nat => [(5, I i)]) (fun _ => [.cells [.str b.name, .lst false EC (a.ins.map eCol), .lst false EC (a.outs.map eCol), I b.policy, I b.agg, .lst false ER (a.rules.map eRule)], .cells [.str b.name, .lst false EC (b.ins.map eCol), .lst false EC (b.outs.map eCol), I b.policy, I b.agg, .lst false ER (b.rules.map eRule)]]) (fun i => i ≤ a.rules.length ∧ ∀ k, k < i → sameRule (a.rules.getD k default) (b.rules.getD k default) = true) (fun i => a.rules.length - i) (0) ?_ ?_ ?_ ?_
  · simp
  · rfl
  · exact at_
  rintro i r ⟨h1, h2⟩
  by_cases hi : i < a.rules.length
  · have hi' : i < b.rules.length := by omega
    have k1 := ref01_SameTexts _ _ (a4 _ (getD_mem hi)).1 (b4 _ (getD_mem hi')).1
    have k2 := ref01_SameTexts _ _ (a4 _ (getD_mem hi)).2 (b4 _ (getD_mem hi')).2
    have hne := fun h => eqL_at (p := sameRule) hi h hi'
    have hbs := fun he => before_succ (q := fun k => sameRule (a.rules.getD k default) (b.rules.getD k default) = true) h2 (i := i) he
    obtain ⟨x, hx⟩ : ∃ x, a.rules.getD i default = x := ⟨_, rfl⟩
    obtain ⟨y, hy⟩ : ∃ y, b.rules.getD i default = y := ⟨_, rfl⟩
    rw [hx] at k1 k2 hne hbs
    rw [hy] at k1 k2 hne hbs
    simp only [sameRule] at hne hbs
    generalize eqL (fun x y => x == y) x.cells y.cells = w1 at k1 hne hbs
    generalize eqL (fun x y => x == y) x.outs y.outs = w2 at k2 hne hbs
    simp only [eStrs] at k1 k2
    repeat' first | simp (disch := omega) only [go_sem, hQr, hQn, hQp, wrapK_i64, wrapK_u8, wrapK_u64, Nat.reduceAdd, Nat.reduceBEq, ↓reduceIte, hx, hy] | refine go_ ?_ | refine cf_ k1 ?_ | refine cf_ k2 ?_ | refine br_ (fun hw => ?_) (fun hw => ?_) <;> try omega | fail
    all_goals first
      | exact ab_
      | (refine leafE ?_ rfl; rw [← hS, hne (by clear hne hbs hS; simp_all), Bool.and_false]; done)
      | (refine ⟨i + 1, ?_, ?_, ?_, ou_, at_⟩ <;> (try dsimp only)
         · exact ⟨by omega, hbs (by clear hne hbs hS; simp_all)⟩
         · omega
         all_goals (first | rfl | (simp [go_sem]; done)))
  · rw [eqL_non hlm (fun k hk => h2 k (by omega)), Bool.and_true] at hS
    repeat' first | refine go_ ?_ | refine cf_ c1 ?_ | refine cf_ c2 ?_ | refine br_ (fun hw => ?_) (fun hw => ?_) <;> try omega | fail
    all_goals first
      | exact ab_
      | (refine leafE ?_ rfl; rw [← hS]; simp_all; done)
theorem slices_Equal_int (l m : List Int) (hl : l.length ≤ 2 ^ 60) (hm : m.length ≤ 2 ^ 60) : CallF Tryz.prog n_slices_Equal_int [eInts l, eInts m] (.bool (eqL (fun a b => a == b) l m)) := by
  simp only [eInts]
  refine CallF.of_nil (of_slices_Equal_int (by simp) ?_) (by simp)
  unfold b_slices_Equal_int WpR
  intro Q hQr hQn hQp
  repeat' first | refine go_ ?_ | refine br_ (fun hw => ?_) (fun hw => ?_) <;> try omega | fail
  · refine leafE ?_ rfl
    rw [eqL_len (by omega)]
  have hlm : l.length = m.length := by omega
  with_reducible refine loop_i [4, 5, 13, 14, 15, 16, 17, 18, 19, 20, 21, 22, 23, 24, 25] (fun i : Nat => [(13, I i)]) (fun _ => []) (fun i => i ≤ l.length ∧ ∀ k, k < i → (l.getD k default == m.getD k default) = true) (fun i => l.length - i) (0) ?_ ?_ ?_ ?_
  · simp
  · rfl
  · exact at_
  rintro i r ⟨h1, h2⟩
  by_cases hi : i < l.length
  · repeat' first | refine go_ ?_ | refine br_ (fun hw => ?_) (fun hw => ?_) <;> try omega | fail
    · refine leafE ?_ rfl
      rw [eqL_at (p := fun a b => a == b) hi (by rw [← Bool.not_eq_true]; simp_all) (by omega)]
    · refine ⟨i + 1, ?_, ?_, by first | rfl | (simp [go_sem]; done), ou_, at_⟩ <;> (try dsimp only)
      · exact ⟨by omega, before_succ h2 (by simp_all)⟩
      · omega
  · repeat' first | refine go_ ?_ | refine br_ (fun hw => ?_) (fun hw => ?_) <;> try omega | fail
    refine leafE ?_ rfl
    rw [eqL_non (p := fun a b => a == b) hlm (fun k hk => h2 k (by omega))]
theorem slices_EqualFunc_LValue (fn : FuncId) (cap : List AV) (hcap : AV.purL cap = true) (p : List Val → List Val → Bool) (l m : List (List Val))
    (h : ∀ k, k < l.length → k < m.length → CallF Tryz.prog fn (eVals (l.getD k default) :: eVals (m.getD k default) :: cap) (.bool (p (l.getD k default) (m.getD k default)))) (hl : l.length ≤ 2 ^ 62) (hm : m.length ≤ 2 ^ 62) :
    CallF Tryz.prog n_slices_EqualFunc_LValue [eRows l, eRows m, .fn (.func fn) [] cap] (.bool (eqL p l m)) := by
  refine CallF.of_nil (of_slices_EqualFunc_LValue (by simp) ?_) (by simp [AV.pur, AV.purL, hcap])
  unfold b_slices_EqualFunc_LValue WpR
  intro Q hQr hQn hQp
  simp only [eRows]
  repeat' first | refine go_ ?_ | refine br_ (fun hw => ?_) (fun hw => ?_) <;> try omega | fail
  · refine leafE ?_ rfl
    rw [eqL_len (by omega)]
  have hlm : l.length = m.length := by omega
  with_reducible refine loop_i [6, 7, 8, 9, 17, 18, 19, 20, 21, 22, 23, 24, 25, 26, 27, 28, 29, 30, 31] (fun i : Nat => [(17, I i)]) (fun _ => []) (fun i => i ≤ l.length ∧ ∀ k, k < i → p (l.getD k default) (m.getD k default) = true) (fun i => l.length - i) (0) ?_ ?_ ?_ ?_
  · simp
  · rfl
  · exact at_
  rintro i r ⟨h1, h2⟩
  by_cases hi : i < l.length
  · have hy := h i hi (by omega)
    simp only [eVals] at hy
    repeat' first | refine go_ ?_ | refine cf_ hy ?_ | refine br_ (fun hw => ?_) (fun hw => ?_) <;> try omega | fail
    · refine leafE ?_ rfl
      rw [eqL_at hi hw (by omega)]
    · refine ⟨i + 1, ?_, ?_, by first | rfl | (simp [go_sem]; done), ou_, at_⟩ <;> (try dsimp only)
      · exact ⟨by omega, before_succ h2 hw⟩
      · omega
  · repeat' first | refine go_ ?_ | refine br_ (fun hw => ?_) (fun hw => ?_) <;> try omega | fail
    refine leafE ?_ rfl
    rw [eqL_non hlm (fun k hk => h2 k (by omega))]
theorem hit_Same_1 (a b : List Val) (ha : a.length ≤ 2 ^ 60) (hb : b.length ≤ 2 ^ 60) : CallF Tryz.prog n_hit_Same_1 [eVals a, eVals b] (.bool (eqL (fun x y => x == y) a b)) := by
  have c := slices_Equal_Value a b ha hb
  generalize eqL (fun x y => x == y) a b = v at *
  simp only [eVals] at c ⊢
  refine CallF.of_nil (of_hit_Same_1 (by simp) ?_) (by simp)
  unfold b_hit_Same_1 WpR
  intro Q hQr hQn hQp
  repeat' first | refine go_ ?_ | refine cf_ c ?_ | refine br_ (fun hw => ?_) (fun hw => ?_) <;> try omega | fail
  exact leafE rfl rfl
theorem hit_Same (a b : Ent) (ha : smE a) (hb : smE b) : CallF Tryz.prog n_hit_Same [.agg (cOut a), .agg (cOut b)] (.bool (decide (a.err = b.err) && eqL (fun x y => x == y) a.rules b.rules && eqL (eqL fun x y => x == y) a.rows b.rows)) := by
  have c1 := slices_Equal_int a.rules b.rules ha.2.1 hb.2.1
  have c2 := slices_EqualFunc_LValue n_hit_Same_1 [] rfl (eqL fun x y => x == y) a.rows b.rows (fun k h1 h2 => hit_Same_1 _ _ (ha.2.2.2 _ (getD_mem h1)) (hb.2.2.2 _ (getD_mem h2))) (by have := ha.2.2.1; omega) (by have := hb.2.2.1; omega)
  generalize eqL (fun x y => x == y) a.rules b.rules = v1 at *
  generalize eqL (eqL fun x y => x == y) a.rows b.rows = v2 at *
  obtain ⟨n, hn⟩ : ∃ n, a.err = n := ⟨_, rfl⟩
  obtain ⟨m, hm⟩ : ∃ n, b.err = n := ⟨_, rfl⟩
  simp only [cOut, hn, hm, eInts, eRows] at c1 c2 ⊢
  refine CallF.of_nil (of_hit_Same (by simp) ?_) (by simp)
  unfold b_hit_Same WpR
  intro Q hQr hQn hQp
  repeat' first | refine go_ ?_ | refine cf_ c1 ?_ | refine cf_ c2 ?_ | refine br_ (fun hw => ?_) (fun hw => ?_) <;> try omega | fail
  all_goals first | exact ab_ | skip
  all_goals (refine leafE ?_ rfl; simp_all)
theorem entry_Same (a b : Ent) (ha : smE a) (hb : smE b) : CallF Tryz.prog n_entry_Same [eEnt a, eEnt b] (.bool (sameE a b)) := by
  have c1 := slices_Equal_Value a.input b.input ha.1 hb.1
  have c2 := hit_Same a b ha hb
  have e : sameE a b = (decide (a.table = b.table) && decide (a.ver = b.ver) && eqL (fun x y => x == y) a.input b.input && (decide (a.err = b.err) && eqL (fun x y => x == y) a.rules b.rules && eqL (eqL fun x y => x == y) a.rows b.rows)) := by
    unfold sameE; simp only [Bool.and_assoc]
  rw [e]; clear e
  generalize eqL (fun x y => x == y) a.input b.input = v1 at *
  generalize (decide (a.err = b.err) && eqL (fun x y => x == y) a.rules b.rules && eqL (eqL fun x y => x == y) a.rows b.rows) = v2 at *
  simp only [eEnt, cEnt, cOut, eInts, eRows, eVals] at c1 c2 ⊢
  refine CallF.of_nil (of_entry_Same (by simp) ?_) (by simp)
  unfold b_entry_Same WpR
  intro Q hQr hQn hQp
  repeat' first | refine go_ ?_ | refine cf_ c1 ?_ | refine cf_ c2 ?_ | refine br_ (fun hw => ?_) (fun hw => ?_) <;> try omega | fail
  all_goals first | exact ab_ | skip
  all_goals (refine leafE ?_ rfl; simp_all)
end Go.Proofs.YtophdhenjdlbeaaGreatDoor
