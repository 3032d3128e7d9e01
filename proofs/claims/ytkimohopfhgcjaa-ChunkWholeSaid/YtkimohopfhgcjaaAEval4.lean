/- Ranges over functions: at the caller's. -/
import Derived.Test.YtkimohopfhgcjaaAEval3
namespace Go.AM
set_option linter.unusedSimpArgs false
set_option linter.unusedVariables false
set_option linter.unnecessarySimpa false
variable {P : Program}
@[go_sem ↓] theorem outK_ret (K Kp : AV → Store → Prop) (r : AV) (σ : Store) : outK K Kp (.ret r) σ = K r σ := _root_.id rfl
@[go_sem ↓] theorem outK_panic (K Kp : AV → Store → Prop) (r : AV) (σ : Store) : outK K Kp (.panic r) σ = Kp r σ := _root_.id rfl
@[go_sem ↓] theorem putArgs_cons (p : Nat) (ps : List Nat) (a : AV) (az : List AV) (e : Env) : putArgs (p :: ps) (a :: az) e = putArgs ps az (upd e (some p) a) := _root_.id rfl
@[go_sem ↓] theorem putArgs_nil (e : Env) : putArgs [] [] e = e := _root_.id rfl
@[go_sem ↓] theorem asgQ_normal (l : Nat) (o o' : AObj) (B : Env → Store → Prop) (e : Env) (σ : Store) : asgQ l o o' B .normal e σ = req (σ[l]? = some o) (.mk : Tg (B e (σ.set l o'))) := and_req _ _
@[go_sem ↓] theorem rndQ_normal (l : Nat) (o : LoopState → Option Code → AObj) (R : Out → Store → Prop) (e : Env) (σ : Store) : rndQ l o R .normal e σ = req (σ[l]? = some (o .busy none)) (.mk : Tg (R (.ret (.bool true)) (σ.set l (o .ready none)))) := and_req _ _
@[go_sem ↓] theorem rndQ_ret (l : Nat) (o : LoopState → Option Code → AObj) (R : Out → Store → Prop) (e : Env) (σ : Store) : rndQ l o R .ret e σ = req (σ[l]? = some (o .busy none)) (.mk : Tg (R (.ret (.bool false)) (σ.set l (o .done (some .ret))))) := and_req _ _
@[go_sem ↓] theorem rndQ_exit (l i : Nat) (o : LoopState → Option Code → AObj) (R : Out → Store → Prop) (e : Env) (σ : Store) : rndQ l o R (.exit i) e σ = req (σ[l]? = some (o .busy none)) (.mk : Tg (R (.ret (.bool false)) (σ.set l (o .done (some (.exit i)))))) := and_req _ _
/-- A range over a function, at the caller's: the function's contract, over what each round does. -/
theorem rng_i {n : FuncId} {first cap : List AV} {nt : Nat} {ps : List Nat} {a b : ACode} {Q : AQ} {e : Env} {σ : Store}
    (h : ∀ o : LoopState → Option Code → AObj, (∀ (σ' : Store) (args : List AV) (R : Out → Store → Prop), σ'[σ.length]? = some (o .ready none) → args.length = ps.length →
        wpA P a (asgQ σ.length (o .ready none) (o .busy none) (wpA P b (rndQ σ.length o R))) (putArgs ps args e) σ' → YieldA P σ.length args σ' R) →
      CallA P n (first ++ [.yld σ.length] ++ cap) (σ ++ [o .ready none]) (endQ σ.length o Q e)) : rngK P (.fn (.func n) first cap) (.mk : Tg (nt, ps, a, b, Q, e, σ)) := fun o _ hy => h o hy
theorem endQ_ready {l : Nat} {o : LoopState → Option Code → AObj} {Q : AQ} {e : Env} {r : AV} {σ : Store} (h : σ[l]? = some (o .ready none)) (hq : Q .normal e (σ.set l .dead)) : endQ l o Q e (.ret r) σ := ⟨_, _, h, by simp, hq⟩
theorem endQ_ret {l : Nat} {o : LoopState → Option Code → AObj} {Q : AQ} {e : Env} {r : AV} {σ : Store} (h : σ[l]? = some (o .done (some .ret))) (hq : Q .ret e (σ.set l .dead)) : endQ l o Q e (.ret r) σ := ⟨_, _, h, by simp, hq⟩
theorem endQ_exit {l i : Nat} {o : LoopState → Option Code → AObj} {Q : AQ} {e : Env} {r : AV} {σ : Store} (h : σ[l]? = some (o .done (some (.exit i)))) (hq : Q (.exit i) e (σ.set l .dead)) : endQ l o Q e (.ret r) σ := ⟨_, _, h, by simp, hq⟩
@[go_sem] theorem op_b2s_one {f : Bool} {σ : Store} {K Kp : AV → Store → Prop} (x : UInt8) : opT P (.b2s (.c (.lst f ⟨false, 1⟩ [.int .u8 x.toNat]))) σ (.mk : Tg (K, Kp)) = K (.str [x]) σ := op_b2s_lst σ K Kp f [x]
section
variable {σ : Store} {K Kp : AV → Store → Prop} {l m n lo off : Nat} {cs xs : List AV} {el : El} {T : Option TypeId}
theorem p2u_i (h : σ[l]? = some (.cellsT T cs)) (hlt : off < cs.length) (hk : K (.ref l off) σ) : opT P (.p2u (.c (.ref l off))) σ (.mk : Tg (K, Kp)) := op_p2u _ _ _ _ _ _ h hlt hk
theorem u2p_i {t u : TypeId} (h : σ[l]? = some (.cellsT (some t) cs)) (hlt : liesAt P P.depth t (cs.length / P.cellsOf t) off u 1 = true) (hk : K (.ref l off) σ) : opT P (.u2p u (.c (.ref l off))) σ (.mk : Tg (K, Kp)) := op_u2p _ _ _ _ _ _ h hlt hk
theorem eqp_i {ng : Bool} (h : σ[l]? = some (.cellsT T cs)) (hk : K (.bool ng.not) σ) : opT P (.eqp ng (.c (.ref l off)) (.c (.ref l off))) σ (.mk : Tg (K, Kp)) := op_eqp _ _ _ _ _ _ ng h hk
theorem usd_i (h : σ[l]? = some (.vecT T el xs)) (hm : m = xs.length) (hn : 0 < n) (hk : K (.vref el l m lo 0) σ) : opT P (.usd el (.c (.own el l m lo n))) σ (.mk : Tg (K, Kp)) := op_usd_own _ _ _ _ _ _ _ _ h hm hn hk
theorem usd_nil (el : El) : opT P (.usd el (.c .nils)) σ (.mk : Tg (K, Kp)) = K .nilp σ := _root_.id rfl
theorem ustr_nil (t : TypeId) : opT P (.ustr t (.c .nilp) (.c (.int .i64 0))) σ (.mk : Tg (K, Kp)) = K (.str []) σ := op_ustr_nil _ _ _ t
attribute [go_sem] usd_nil ustr_nil
theorem ustr_i {t : TypeId} {a : Int} (s : List UInt8) (h : σ[l]? = some (.vecT (some t) ⟨false, 1⟩ xs)) (hm : m = xs.length) (hx : xs = s.map fun b => .int .u8 b.toNat) (h0 : s ≠ []) (h2 : s.length ≤ 2 ^ 62) (ha : a = (s.length : Int)) (hk : K (.str s) (σ.set l .dead)) :
    opT P (.ustr t (.c (.vref ⟨false, 1⟩ l m 0 0)) (.c (.int .i64 a))) σ (.mk : Tg (K, Kp)) := op_ustr_own _ _ _ _ _ _ s h hm hx h0 h2 ha hk
theorem noesc_i {g : FuncId} {v : AV} (h : ∃ fn, P.funcs[g]? = some fn ∧ (fn.name == "runtime.NumGoroutine") = false ∧ fn.body.isNone = true ∧ Extern.findNext fn = none ∧ Extern.find fn = some Extern.AbiNoEscape.same) (hk : K v σ) : noescT P g v σ (.mk : Tg K) := ⟨h, hk⟩
end
@[go_sem] theorem partT_fs (sz off : Nat) (cs : List AV) (K : AV → Prop) : partT false ⟨true, sz⟩ (.agg cs) off false 1 (.mk : Tg K) = req (off + 1 ≤ sz) (.mk : Tg (K (cs.getD off .undef))) := by
  rw [partT_f _ _ _ _ _ (by simp)]; simp [req]
section
variable {α : Type} (ρ τ : List α) (c d x : α)
@[go_sem] theorem getApp0 : (ρ ++ c :: τ)[ρ.length]? = some c := by simp
@[go_sem] theorem getApp1 : (ρ ++ c :: d :: τ)[ρ.length + 1]? = some d := by rw [List.getElem?_append_right (by omega)]; simp
@[go_sem] theorem setApp0 : (ρ ++ c :: τ).set ρ.length x = ρ ++ x :: τ := by simp
@[go_sem] theorem setApp1 : (ρ ++ c :: d :: τ).set (ρ.length + 1) x = ρ ++ c :: x :: τ := by rw [List.set_append_right _ _ (by omega)]; simp
end
theorem heads3 {σ : Store} {a b c : AObj} (h0 : σ[0]? = some a) (h1 : σ[1]? = some b) (h2 : σ[2]? = some c) : ∃ τ, σ = a :: b :: c :: τ := by
  match σ, h0, h1, h2 with
  | x :: y :: z :: τ, h0, h1, h2 => cases h0; cases h1; cases h2; exact ⟨τ, rfl⟩
theorem heads4 {σ : Store} {a b c d : AObj} (h0 : σ[0]? = some a) (h1 : σ[1]? = some b) (h2 : σ[2]? = some c) (h3 : σ[3]? = some d) : ∃ τ, σ = a :: b :: c :: d :: τ := by
  match σ, h0, h1, h2, h3 with
  | x :: y :: z :: u :: τ, h0, h1, h2, h3 => cases h0; cases h1; cases h2; cases h3; exact ⟨τ, rfl⟩
end Go.AM
