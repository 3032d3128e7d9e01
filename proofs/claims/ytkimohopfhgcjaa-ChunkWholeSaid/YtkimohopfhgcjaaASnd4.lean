/- Arithmetic, texts, fields, indexes. -/
import Derived.Test.YtkimohopfhgcjaaASnd3
namespace Go.AM
set_option linter.unusedSimpArgs false
set_option linter.unusedVariables false
set_option linter.unnecessarySimpa false
section
variable {P : Program} {g : Ghost} {w : World} {σ : Store} {K : AV → Store → Prop}

theorem baList (l : List UInt8) : (⟨l.toArray⟩ : ByteArray).toList = l := by
  have key : ∀ (n : Nat) (b : ByteArray) (i : Nat) (r : List UInt8), b.size - i = n → ByteArray.toList.loop b i r = r.reverse ++ b.data.toList.drop i := by
    intro n
    induction n with
    | zero =>
      intro b i r h
      unfold ByteArray.toList.loop
      rw [if_neg (by omega)]
      have : b.data.toList.length ≤ i := by
        have : b.data.toList.length = b.size := by rw [Array.length_toList]; rfl
        omega
      rw [List.drop_eq_nil_of_le this, List.append_nil]
    | succ n ih =>
      intro b i r h
      have hi : i < b.size := by omega
      unfold ByteArray.toList.loop
      rw [if_pos hi, ih b (i + 1) _ (by omega)]
      have hi' : i < b.data.toList.length := by rw [Array.length_toList]; exact hi
      have hi2 : i < b.data.size := hi
      rw [List.drop_eq_getElem_cons hi', List.reverse_cons, List.append_assoc, List.singleton_append]
      congr 2
      show b.data[i]! = _
      rw [getElem!_pos b.data i hi2]
      simp
  have := key _ ⟨l.toArray⟩ 0 [] rfl
  simpa [ByteArray.toList] using this

theorem run_arith (t : TypeId) (k : IntKind) (n m : Int) (w : World) :
    (binOp .add t (.int k n) (.int k m)).run P w = .ok (.int k (wrapK k (n + m))) w ∧ (binOp .sub t (.int k n) (.int k m)).run P w = .ok (.int k (wrapK k (n - m))) w ∧
    (binOp .mul t (.int k n) (.int k m)).run P w = .ok (.int k (wrapK k (n * m))) w := by
  simp [binOp, Op.intArith, wrapK]
theorem run_div (t : TypeId) (k : IntKind) (n m : Int) (w : World) (h : m ≠ 0) :
    (binOp .quo t (.int k n) (.int k m)).run P w = .ok (.int k (wrapK k (n.tdiv m))) w ∧ (binOp .rem t (.int k n) (.int k m)).run P w = .ok (.int k (n.tmod m)) w := by
  simp [binOp, Op.intDiv, wrapK, h]
theorem run_bits (t : TypeId) (k : IntKind) (n m : Int) (w : World) :
    (binOp .and t (.int k n) (.int k m)).run P w = .ok (.int k (bitsK .and k n m)) w ∧ (binOp .or t (.int k n) (.int k m)).run P w = .ok (.int k (bitsK .or k n m)) w ∧
    (binOp .xor t (.int k n) (.int k m)).run P w = .ok (.int k (bitsK .xor k n m)) w ∧ (binOp .andNot t (.int k n) (.int k m)).run P w = .ok (.int k (bitsK .andNot k n m)) w := by
  simp [binOp, Op.intBits, bitsK]
theorem run_shift (t : TypeId) (k k' : IntKind) (n m : Int) (w : World) (h : 0 ≤ m) :
    (binOp .shl t (.int k n) (.int k' m)).run P w = .ok (.int k (wrapK k (n * 2 ^ (Nat.min m.toNat k.bits)))) w ∧ (binOp .shr t (.int k n) (.int k' m)).run P w = .ok (.int k (n.fdiv (2 ^ (Nat.min m.toNat k.bits)))) w := by
  have h1 : ¬ m < 0 := by omega
  simp [binOp, Op.shift, wrapK, h1, Nat.min_def]
theorem run_cmp (t : TypeId) (k : IntKind) (n m : Int) (w : World) :
    (binOp .eql t (.int k n) (.int k m)).run P w = .ok (.bool (n == m)) w ∧ (binOp .neq t (.int k n) (.int k m)).run P w = .ok (.bool (!(n == m))) w ∧
    (binOp .lss t (.int k n) (.int k m)).run P w = .ok (.bool (decide (n < m))) w ∧ (binOp .leq t (.int k n) (.int k m)).run P w = .ok (.bool (decide (n ≤ m))) w ∧
    (binOp .gtr t (.int k n) (.int k m)).run P w = .ok (.bool (decide (m < n))) w ∧ (binOp .geq t (.int k n) (.int k m)).run P w = .ok (.bool (decide (m ≤ n))) w := by
  simp [binOp, Op.intCmp, bne]
theorem run_str (t : TypeId) (s u : List UInt8) (w : World) :
    (binOp .eql t (.string ⟨s.toArray⟩) (.string ⟨u.toArray⟩)).run P w = .ok (.bool (s == u)) w ∧ (binOp .neq t (.string ⟨s.toArray⟩) (.string ⟨u.toArray⟩)).run P w = .ok (.bool (!(s == u))) w ∧
    (binOp .lss t (.string ⟨s.toArray⟩) (.string ⟨u.toArray⟩)).run P w = .ok (.bool (Op.bytesLess s u)) w ∧ (binOp .leq t (.string ⟨s.toArray⟩) (.string ⟨u.toArray⟩)).run P w = .ok (.bool (Op.bytesLess s u || s == u)) w ∧
    (binOp .gtr t (.string ⟨s.toArray⟩) (.string ⟨u.toArray⟩)).run P w = .ok (.bool (!(Op.bytesLess s u || s == u))) w ∧ (binOp .geq t (.string ⟨s.toArray⟩) (.string ⟨u.toArray⟩)).run P w = .ok (.bool (!Op.bytesLess s u)) w := by
  simp [binOp, Op.stringOp, baList]
theorem run_cat (t : TypeId) (s u : List UInt8) (w : World) (h : ((s.length + u.length : Nat) : Int) ≤ IntKind.i64.max) :
    (binOp .add t (.string ⟨s.toArray⟩) (.string ⟨u.toArray⟩)).run P w = .ok (.string ⟨(s ++ u).toArray⟩) w := by
  have h1 : ¬ (((⟨s.toArray⟩ : ByteArray).size + (⟨u.toArray⟩ : ByteArray).size : Nat) : Int) > IntKind.i64.max := by
    simp only [ByteArray.size, List.size_toArray]; omega
  simp only [binOp, Op.stringOp, if_neg h1, Sem.run_pure]
  congr 2

theorem bin_sound {op : BinOp} {t : TypeId} {x y : AV} {a b : Value} (hR : Rel g w σ) (hx : VR g w x a) (hy : VR g w y b)
    (hK : binA op x y fun v => K v σ) : RunS P (binOp op t a b) g w σ K := by
  cases hx <;> cases hy <;> (try (cases op <;> exact hK.elim))
  case int.int k n k' m =>
    cases op <;> simp only [binA] at hK
    case shl => exact RunS.pure hR (run_shift t k k' n m w hK.1).1 (.int _ _) hK.2
    case shr => exact RunS.pure hR (run_shift t k k' n m w hK.1).2 (.int _ _) hK.2
    all_goals obtain ⟨rfl, hK⟩ := hK
    case add => exact RunS.pure hR (run_arith t k n m w).1 (.int _ _) hK
    case sub => exact RunS.pure hR (run_arith t k n m w).2.1 (.int _ _) hK
    case mul => exact RunS.pure hR (run_arith t k n m w).2.2 (.int _ _) hK
    case quo => exact RunS.pure hR (run_div t k n m w hK.1).1 (.int _ _) hK.2
    case rem => exact RunS.pure hR (run_div t k n m w hK.1).2 (.int _ _) hK.2
    case and => exact RunS.pure hR (run_bits t k n m w).1 (.int _ _) hK
    case or => exact RunS.pure hR (run_bits t k n m w).2.1 (.int _ _) hK
    case xor => exact RunS.pure hR (run_bits t k n m w).2.2.1 (.int _ _) hK
    case andNot => exact RunS.pure hR (run_bits t k n m w).2.2.2 (.int _ _) hK
    case eql => exact RunS.pure hR (run_cmp t k n m w).1 (.bool _) hK
    case neq => exact RunS.pure hR (run_cmp t k n m w).2.1 (.bool _) hK
    case lss => exact RunS.pure hR (run_cmp t k n m w).2.2.1 (.bool _) hK
    case leq => exact RunS.pure hR (run_cmp t k n m w).2.2.2.1 (.bool _) hK
    case gtr => exact RunS.pure hR (run_cmp t k n m w).2.2.2.2.1 (.bool _) hK
    case geq => exact RunS.pure hR (run_cmp t k n m w).2.2.2.2.2 (.bool _) hK
  case str.str s u =>
    cases op <;> simp only [binA] at hK
    case add => exact RunS.pure hR (run_cat t s u w hK.1) (.str _) hK.2
    case eql => exact RunS.pure hR (run_str t s u w).1 (.bool _) hK
    case neq => exact RunS.pure hR (run_str t s u w).2.1 (.bool _) hK
    case lss => exact RunS.pure hR (run_str t s u w).2.2.1 (.bool _) hK
    case leq => exact RunS.pure hR (run_str t s u w).2.2.2.1 (.bool _) hK
    case gtr => exact RunS.pure hR (run_str t s u w).2.2.2.2.1 (.bool _) hK
    case geq => exact RunS.pure hR (run_str t s u w).2.2.2.2.2 (.bool _) hK

theorem un_sound {op : UnOp} {x : AV} {a : Value} (hR : Rel g w σ) (hx : VR g w x a) (hK : unA op x fun v => K v σ) : RunS P (Op.unary op a) g w σ K := by
  cases hx <;> (try (cases op <;> exact hK.elim))
  case bool b =>
    cases op <;> simp only [unA] at hK
    case not => exact RunS.pure hR (by simp [Op.unary]) (.bool _) hK
  case int k n =>
    cases op <;> simp only [unA] at hK
    case neg => exact RunS.pure hR (by simp [Op.unary, Op.intArith]; rfl) (.int k _) hK
    case xor => exact RunS.pure hR (by simp [Op.unary, Op.intBits]; rfl) (.int k _) hK

theorem cint_sound {s d : TypeId} {k k' : IntKind} {x : AV} {a : Value} (hR : Rel g w σ) (h1 : P.underlying s = some (.int k')) (h2 : P.underlying d = some (.int k)) (hx : VR g w x a)
    (hK : match (generalizing := false) x with | .int _ n => K (.int k (wrapK k n)) σ | _ => False) : RunS P (convert s d a) g w σ K := by
  cases hx <;> simp only at hK
  case int k0 n => exact RunS.pure hR (by simp [convert, run_underlying' h1, run_underlying' h2, Conv.intToInt]; rfl) (.int k _) hK

theorem cid_sound {s d : TypeId} {x : AV} {a : Value} (hR : Rel g w σ) (h1 : P.underlying s = some .string) (h2 : P.underlying d = some .string) (hx : VR g w x a) (hs : ∃ u, x = .str u)
    (hK : K x σ) : RunS P (convert s d a) g w σ K := by
  obtain ⟨u, rfl⟩ := hs
  cases hx
  exact RunS.pure hR (by simp [convert, run_underlying' h1, run_underlying' h2]) (.str _) hK

theorem extract_sound {x : AV} {a : Value} {i : Nat} (hR : Rel g w σ) (hx : VR g w x a) (hK : match (generalizing := false) x with | .tup vs => i < vs.length ∧ K (vs.getD i .undef) σ | _ => False) :
    RunS P (Instr.extract a i) g w σ K := by
  cases hx <;> simp only at hK
  case tup cs vs hl h =>
    obtain ⟨h1, h2⟩ := hK
    have h3 : i < vs.size := by omega
    exact RunS.pure hR (v := vs.getD i Go.undef) (by simp [Instr.extract, h3]) (h i h1) h2

theorem idxS_sound {t : TypeId} {x y : AV} {a b : Value} (hR : Rel g w σ) (hu : P.underlying t = some .string) (hx : VR g w x a) (hy : VR g w y b)
    (hK : match (generalizing := false) x, y with | .str s, .int _ k => 0 ≤ k ∧ k < s.length ∧ K (.int .u8 (s.getD k.toNat 0).toNat) σ | _, _ => False) : RunS P (Instr.index t a b) g w σ K := by
  cases hx <;> cases hy <;> simp only at hK
  case str.int s k n =>
    obtain ⟨h1, h2, h3⟩ := hK
    have h4 : n.toNat < s.length := by omega
    have h5 : (⟨s.toArray⟩ : ByteArray)[n.toNat]? = some (s.getD n.toNat 0) := by
      have : n.toNat < (⟨s.toArray⟩ : ByteArray).size := by simpa [ByteArray.size] using h4
      rw [getElem?_pos (⟨s.toArray⟩ : ByteArray) n.toNat this]
      congr 1
      simp [ByteArray.getElem_eq_getElem_data, h4]
    refine RunS.pure hR ?_ (.int .u8 _) h3
    simp only [Instr.index, asIntOf, Sem.run_bind, Sem.run_pure, Result.andThen_ok, run_underlying' hu, if_pos h1, h5]

end
end Go.AM
