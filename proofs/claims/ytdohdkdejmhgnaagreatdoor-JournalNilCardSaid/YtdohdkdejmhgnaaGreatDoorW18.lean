/- Part of a proof: see Root. -/
import Derived.Test.YtdohdkdejmhgnaaGreatDoorW17
set_option linter.unnecessarySimpa false
set_option linter.unusedSectionVars false
set_option linter.unusedSimpArgs false
set_option linter.unusedVariables false
namespace Go.AM
variable {P : Program}
theorem ab_ {p : Prop} (h : False := by first | omega | (simp_all; done) | (simp_all; omega)) : p := h.elim
theorem at_ {p : Prop} (h : p := by simp (disch := omega) only [at_nil, at_cons, and_true, go_sem, wrapK_i64, wrapK_u8, wrapK_u64, Nat.reduceAdd, Nat.reduceBEq, ↓reduceIte, Int.natCast_add, Int.cast_ofNat_Int] <;> (try trivial) <;> (try omega) <;> (try (repeat (first | trivial | (refine And.intro ?_ ?_) | (congr 1; omega))))) : p := h
theorem ou_ {p : Prop} (h : p := by repeat (first | exact out_ovl _ _ _ | refine out_upd rfl ?_ | refine out_ovl2 rfl ?_ | (simp only [puts_cons, puts_nil]))) : p := h
theorem bs_ {K : AV → Prop} {xs : List AV} {m n : Nat} {s : List UInt8} (hk : K (.str s)) (hx : xs = s.map fun b => AV.int .u8 b.toNat) (hm : m = xs.length) (hn : n = xs.length) : b2sO (some (.vec ⟨false, 1⟩ xs)) m 0 n (.mk : Tg K) := b2sO_whole s hx hm hn hk
theorem go_ {G K : Prop} (k : K) (h : K → G := by
    first
    | (intro k; simp (disch := omega) only [go_sem, hQr, hQn, hQp, wrapK_i64, wrapK_u8, wrapK_u64, Nat.reduceAdd, Nat.reduceBEq, ↓reduceIte]; exact k)
    | (intro k; with_reducible refine req_d ?_ k; first | omega | (simp; done) | (simp; omega) | assumption)
    | (intro k; with_reducible exact scope_no k)
    | (intro k; with_reducible exact bs_ k rfl (by simp) (by simp))) : G := h k
theorem cc_ {t : Bool} {T E p q : Prop} (h : p → T) (h' : q → E) (hp : (t = true) = p) (hq : (t = false) = q) : condA (.bool t) (.mk : Tg (T, E)) := by
  subst hp hq; exact condA_i h h'
theorem gk_ {t b : Bool} {T E U p q : Prop} (h : p → T) (h' : q → E) (hp : (t = b) = p) (hq : (t = !b) = q) : guardK (.bool t) b (.mk : Tg (T, E, U)) := by
  subst hp hq; exact guardK_i h h'
theorem br_ {p q T E G : Prop} (h : p → T) (h' : q → E) (hg : (p → T) → (q → E) → G := by
    intro h h'
    with_reducible first | refine cc_ h h' ?_ ?_ | refine gk_ h h' ?_ ?_
    all_goals
      (try simp only [decide_eq_true_eq, decide_eq_false_iff_not, beq_iff_eq, beq_eq_false_iff_ne, Bool.not_eq_true', Bool.not_eq_false', Bool.not_true, Bool.not_false, Int.not_lt, Int.not_le, ne_eq, Int.ofNat_lt, Int.ofNat_le, not_true_eq_false, reduceCtorEq, Int.toNat_zero])
      exact rfl) : G := hg h h'
theorem cf_ {n : FuncId} {args : List AV} {r : AV} {K G : Prop} (h : CallF P n args r) (k : K) (hg : CallF P n args r → K → G := by
    intro h k; with_reducible first | exact callL_f h k | exact callD_f h k) : G := hg h k
end Go.AM
namespace Go.Proofs.YtdohdkdejmhgnaaGreatDoor
open Go.AM
abbrev Str := List UInt8
structure Val where
  kind : Int
  n : Int
  s : Str
deriving DecidableEq, Inhabited
structure Tok where
  kind : Int
  s : Str
  n : Int
  pos : Int
deriving DecidableEq, Inhabited
inductive Expr where
  | mk (op : Int) (v : Val) (s : Str) (l : List Expr)
instance : Inhabited Expr := ⟨.mk 0 ⟨0, 0, []⟩ [] []⟩
def Expr.op : Expr → Int | .mk op _ _ _ => op
def Expr.v : Expr → Val | .mk _ v _ _ => v
def Expr.s : Expr → Str | .mk _ _ s _ => s
def Expr.l : Expr → List Expr | .mk _ _ _ l => l
structure Test where
  kind : Int
  a : Expr
  b : Expr
  lo : Bool
  hi : Bool
deriving Inhabited
structure Cell where
  any : Bool
  neg : Bool
  tests : List Test
deriving Inhabited
structure Col where
  name : Str
  kind : Int
  order : List Val
deriving Inhabited
structure Rule where
  cells : List Str
  outs : List Str
deriving Inhabited
structure Table where
  name : Str
  ins : List Col
  outs : List Col
  policy : Int
  agg : Int
  rules : List Rule
deriving Inhabited
structure Line where
  cells : List Cell
  outs : List Expr
deriving Inhabited
structure Ready where
  table : Table
  lines : List Line
deriving Inhabited
abbrev I (n : Int) : AV := .int .i64 n
abbrev E1 : El := ⟨false, 1⟩
abbrev EV : El := ⟨true, 3⟩
def eVal (v : Val) : AV := .agg [I v.kind, I v.n, .str v.s]
def eTok (t : Tok) : AV := .agg [I t.kind, .str t.s, I t.n, I t.pos]
def eVals (l : List Val) : AV := .lst false EV (l.map eVal)
attribute [go_sem] eVal eTok eVals
theorem pur_eVal (v : Val) : (eVal v).pur = true := rfl
theorem pur_eTok (t : Tok) : (eTok t).pur = true := rfl
theorem pur_eVals (l : List Val) : (eVals l).pur = true := by simp only [eVals, AV.pur]; exact purL_map _ _ pur_eVal
theorem purL_v (l : List Val) : AV.purL (l.map eVal) = true := purL_map _ _ pur_eVal
attribute [simp] AV.pur AV.purL pur_eVal pur_eTok pur_eVals purL_v
theorem getD_mem {α : Type} [Inhabited α] {l : List α} {i : Nat} (h : i < l.length) : l.getD i default ∈ l := by
  rw [List.getD_eq_getElem?_getD, List.getElem?_eq_getElem h]; exact List.getElem_mem h
def printB (c : UInt8) : Bool := decide (32 ≤ c.toNat) && decide (c.toNat ≤ 126)
def letterB (c : UInt8) : Bool := (decide (97 ≤ c.toNat) && decide (c.toNat ≤ 122)) || (decide (65 ≤ c.toNat) && decide (c.toNat ≤ 90)) || decide (c.toNat = 95)
def digitB (c : UInt8) : Bool := decide (48 ≤ c.toNat) && decide (c.toNat ≤ 57)
def wordB (c : UInt8) : Bool := letterB c || digitB c
def plainS (s : Str) : Bool := decide (s.length ≤ 40) && s.all printB
def rightV (v : Val) : Bool :=
  if v.kind = 0 then decide (v.n = 0) && decide (v.s = [])
  else if v.kind = 1 then decide (v.s = [])
  else if v.kind = 2 then decide (v.n = 0) && plainS v.s
  else if v.kind = 3 then decide (v.s = []) && (decide (v.n = 0) || decide (v.n = 1))
  else false
end Go.Proofs.YtdohdkdejmhgnaaGreatDoor
namespace Go.Proofs.YtdohdkdejmhgnaaGreatDoor
open Go.AM
def wordN (s : Str) : Nat := match s with
  | [] => 0
  | c :: _ => if letterB c then (s.takeWhile wordB).length else 0
structure PR where
  kind : Int
  s : Str
  n : Int
  len : Nat
  e : Int
deriving Inhabited, DecidableEq
def PR.err (e : Int) : PR := ⟨0, [], 0, 0, e⟩
def numF : Str → Int → Option Int
  | [], v => some v
  | c :: r, v => if v > (9223372036854775807 - ((c.toNat : Int) - 48)) / 10 then none else numF r (v * 10 + ((c.toNat : Int) - 48))
def reservedL : List Str := [[97, 110, 100], [111, 114], [110, 111, 116], [105, 102], [116, 104, 101, 110], [101, 108, 115, 101], [116, 114, 117, 101], [102, 97, 108, 115, 101], [110, 117, 108, 108]]
def reservedS (s : Str) : Bool := reservedL.contains s
def nameS (s : Str) : Bool := decide (s ≠ []) && decide (wordN s = s.length) && decide (s.length ≤ 16) && !reservedS s
theorem takeWhile_le {p : UInt8 → Bool} (s : Str) : (s.takeWhile p).length ≤ s.length := by
  induction s with
  | nil => simp
  | cons c s ih => simp only [List.takeWhile_cons]; split <;> simp; omega
end Go.Proofs.YtdohdkdejmhgnaaGreatDoor
namespace Go.Proofs.YtdohdkdejmhgnaaGreatDoor
open Go.AM
set_option maxRecDepth 4000
theorem or32 (c : UInt8) : bitsO .or .u8 (c.toNat : Int) 32 = ((c.toNat ||| 32 : Nat) : Int) := by
  rw [bitsO_eq]
  have h : ∀ n : Fin 256, bitsK .or .u8 (n.val : Int) 32 = ((n.val ||| 32 : Nat) : Int) := by decide +kernel
  exact h ⟨c.toNat, c.toNat_lt⟩
theorem or32_letter (c : UInt8) : (decide (97 ≤ c.toNat ||| 32) && decide (c.toNat ||| 32 ≤ 122) || decide (c.toNat = 95)) = letterB c := by
  have h : ∀ n : Fin 256, (decide (97 ≤ n.val ||| 32) && decide (n.val ||| 32 ≤ 122) || decide (n.val = 95)) = ((decide (97 ≤ n.val) && decide (n.val ≤ 122)) || (decide (65 ≤ n.val) && decide (n.val ≤ 90)) || decide (n.val = 95)) := by decide +kernel
  exact h ⟨c.toNat, c.toNat_lt⟩
theorem lex_letter (c : UInt8) : CallF Tryz.prog n_lex_letter [.int .u8 c.toNat] (.bool (letterB c)) := by
  rw [← or32_letter]
  refine CallF.of_nil (of_lex_letter (by simp) ?_) rfl
  unfold b_lex_letter WpR
  intro Q hQr hQn hQp
  repeat' first | refine go_ ?_ | refine br_ (fun hw => ?_) (fun hw => ?_) <;> try omega | fail
  all_goals refine leafE ?_ rfl
  all_goals (rw [or32] at *; (refine congrArg AV.bool ?_; rw [Bool.eq_iff_iff]; simp only [or32, Bool.and_eq_true, Bool.or_eq_true, decide_eq_true_eq, beq_iff_eq, Bool.not_eq_true', decide_eq_false_iff_not, beq_eq_false_iff_ne, ne_eq, true_iff, false_iff, iff_true, iff_false, Bool.false_eq_true, Bool.true_eq_false, not_and, not_or] at *; omega))
theorem lex_digit (c : UInt8) : CallF Tryz.prog n_lex_digit [.int .u8 c.toNat] (.bool (digitB c)) := by
  refine CallF.of_nil (of_lex_digit (by simp) ?_) rfl
  unfold b_lex_digit WpR
  intro Q hQr hQn hQp
  repeat' first | refine go_ ?_ | refine br_ (fun hw => ?_) (fun hw => ?_) <;> try omega | fail
  all_goals refine leafE ?_ rfl
  all_goals (refine congrArg AV.bool ?_; rw [Bool.eq_iff_iff]; simp only [digitB, Bool.and_eq_true, Bool.or_eq_true, decide_eq_true_eq, beq_iff_eq, Bool.not_eq_true', decide_eq_false_iff_not, beq_eq_false_iff_ne, ne_eq, true_iff, false_iff, iff_true, iff_false, Bool.false_eq_true, Bool.true_eq_false, not_and, not_or] at *; omega)
theorem takeWhile_at {p : UInt8 → Bool} {s : Str} {i : Nat} (hi : i < s.length) : ((s.drop i).takeWhile p).length = if p (s.getD i 0) then 1 + ((s.drop (i + 1)).takeWhile p).length else 0 := by
  rw [List.drop_eq_getElem_cons hi, List.takeWhile_cons, List.getD_eq_getElem?_getD, List.getElem?_eq_getElem hi]
  simp only [Option.getD_some]
  split <;> simp; omega
theorem lex_run (fn : FuncId) (cap : List AV) (hcap : AV.purL cap = true) (p : UInt8 → Bool) (h : ∀ c : UInt8, CallF Tryz.prog fn (.int .u8 c.toNat :: cap) (.bool (p c))) (s : Str) (hs : s.length ≤ 2 ^ 62) :
    CallF Tryz.prog n_lex_run [.str s, .fn (.func fn) [] cap] (I (s.takeWhile p).length) := by
  refine CallF.of_nil (of_lex_run (by simp) ?_) (by simp [AV.pur, AV.purL, hcap])
  unfold b_lex_run WpR
  intro Q hQr hQn hQp
  repeat' first | refine go_ ?_ | refine br_ (fun hw => ?_) (fun hw => ?_) <;> try omega | fail
  with_reducible refine loop_i [4, 5, 8, 9, 10, 11, 12, 13, 14, 15, 16, 17, 18] (fun i : Nat => [(8, I i)]) (fun _ => []) (fun i => i ≤ s.length ∧ (s.takeWhile p).length = i + ((s.drop i).takeWhile p).length) (fun i => s.length - i) (0) ?_ ?_ ?_ ?_
  · simp
  · rfl
  · exact at_
  · rintro i r ⟨hi, hp⟩
    repeat' first | refine go_ ?_ | refine cf_ (h _) ?_ | refine br_ (fun hw => ?_) (fun hw => ?_) <;> try omega | fail
    · rw [takeWhile_at (by omega)] at hp
      rw [hw] at hp
      exact leafE (by simp at hp; simp [hp]) rfl
    · rw [takeWhile_at (by omega)] at hp
      rw [hw] at hp
      refine ⟨i + 1, ?_, ?_, by first | rfl | (simp [go_sem]; done), ou_, at_⟩ <;> (try dsimp only)
      · simp at hp; exact ⟨by omega, by omega⟩
      · omega
    · have : i = s.length := by omega
      subst this
      exact leafE (by simp at hp; simp [hp]) rfl
theorem lex_word_1 (c : UInt8) : CallF Tryz.prog n_lex_word_1 [.int .u8 c.toNat] (.bool (wordB c)) := by
  refine CallF.of_nil (of_lex_word_1 (by simp) ?_) rfl
  unfold b_lex_word_1 WpR
  intro Q hQr hQn hQp
  repeat' first | refine go_ ?_ | refine cf_ (lex_letter _) ?_ | refine cf_ (lex_digit _) ?_ | refine br_ (fun hw => ?_) (fun hw => ?_) <;> try omega | fail
  all_goals refine leafE ?_ rfl
  all_goals simp_all [wordB]
theorem lex_word (s : Str) (hs : s.length ≤ 2 ^ 62) : CallF Tryz.prog n_lex_word [.str s] (I (wordN s)) := by
  refine CallF.of_nil (of_lex_word (by simp) ?_) rfl
  unfold b_lex_word WpR
  intro Q hQr hQn hQp
  cases s with
  | nil =>
    repeat' first | refine go_ ?_ | refine br_ (fun hw => ?_) (fun hw => ?_) <;> try omega | fail
    all_goals (refine leafE ?_ ?_ <;> rfl)
  | cons c r =>
    repeat' first | refine go_ ?_ | refine cf_ (lex_letter _) ?_ | refine cf_ (lex_run _ _ rfl wordB lex_word_1 _ hs) ?_ | refine br_ (fun hw => ?_) (fun hw => ?_) <;> try omega | fail
    all_goals refine leafE ?_ rfl
    all_goals simp_all [wordN]
theorem takeWhile_getD {p : UInt8 → Bool} {s : Str} {i : Nat} (hi : i < (s.takeWhile p).length) : s.getD i 0 = (s.takeWhile p).getD i 0 ∧ p (s.getD i 0) = true := by
  induction s generalizing i with
  | nil => simp at hi
  | cons c r ih =>
    simp only [List.takeWhile_cons] at hi ⊢
    split at hi
    · rename_i hc
      simp only [hc, if_true]
      cases i with
      | zero => simp [hc]
      | succ i => simpa using ih (by simpa using hi)
    · simp at hi
theorem drop_at0 {l : Str} {i : Nat} (h : i < l.length) : l.drop i = l.getD i 0 :: l.drop (i + 1) := by
  rw [List.drop_eq_getElem_cons h, List.getD_eq_getElem?_getD, List.getElem?_eq_getElem h]; rfl
abbrev eBytes (s : Str) : List AV := s.map fun b => AV.int .u8 b.toNat
end Go.Proofs.YtdohdkdejmhgnaaGreatDoor
namespace Go.Proofs.YtdohdkdejmhgnaaGreatDoor
open Go.AM
set_option maxRecDepth 4000
def idxF {α : Type} (p : α → Bool) (l : List α) : Int := match l.findIdx? p with
  | some i => i
  | none => -1
theorem idxF_none {α : Type} [Inhabited α] {p : α → Bool} {l : List α} (h : ∀ k, k < l.length → p (l.getD k default) = false) : idxF p l = -1 := by
  have : l.findIdx? p = none := by
    rw [List.findIdx?_eq_none_iff]
    intro x hx
    obtain ⟨k, hk, rfl⟩ := List.getElem_of_mem hx
    have := h k hk
    rwa [List.getD_eq_getElem?_getD, List.getElem?_eq_getElem hk] at this
  simp [idxF, this]
theorem idxF_at {α : Type} [Inhabited α] {p : α → Bool} {l : List α} {i : Nat} (hi : i < l.length) (h : ∀ k, k < i → p (l.getD k default) = false) (hp : p (l.getD i default) = true) : idxF p l = i := by
  have : l.findIdx? p = some i := by
    rw [List.findIdx?_eq_some_iff_getElem]
    refine ⟨hi, ?_, fun j hj => ?_⟩
    · rwa [List.getD_eq_getElem?_getD, List.getElem?_eq_getElem hi] at hp
    · have := h j hj
      rw [List.getD_eq_getElem?_getD, List.getElem?_eq_getElem (by omega)] at this
      simpa using this
  simp [idxF, this]
theorem find_idx {α : Type} [Inhabited α] (p : α → Bool) : ∀ l : List α, (idxF p l = -1 ∧ l.find? p = none) ∨ ∃ i : Nat, i < l.length ∧ idxF p l = i ∧ l.find? p = some (l.getD i default)
  | [] => .inl ⟨rfl, rfl⟩
  | x :: l => by
    by_cases hp : p x = true
    · exact .inr ⟨0, by simp, by simp [idxF, List.findIdx?_cons, hp], by simp [hp]⟩
    · rcases find_idx p l with ⟨h1, h2⟩ | ⟨i, h1, h2, h3⟩
      · left
        simp only [idxF] at h1
        refine ⟨?_, by simp [hp, h2]⟩
        cases h : l.findIdx? p with
        | none => simp [idxF, List.findIdx?_cons, hp, h]
        | some k => rw [h] at h1; simp at h1
      · right
        refine ⟨i + 1, by simp; omega, ?_, by simp [hp, h3]⟩
        simp only [idxF] at h2
        cases h : l.findIdx? p with
        | none => rw [h] at h2; simp at h2
        | some k => rw [h] at h2; simp at h2; simp [idxF, List.findIdx?_cons, hp, h]; omega
theorem lex_reserved (s : Str) : CallF Tryz.prog n_lex_reserved [.str s] (.bool (reservedS s)) := by
  refine CallF.of_nil (of_lex_reserved (by simp) ?_) rfl
  unfold b_lex_reserved WpR
  intro Q hQr hQn hQp
  repeat' first | refine go_ ?_ | refine br_ (fun hw => ?_) (fun hw => ?_) <;> try omega | fail
  all_goals refine leafE ?_ rfl
  all_goals (refine congrArg AV.bool ?_; simp_all [reservedS, reservedL])
theorem lex_Name (s : Str) (hs : s.length ≤ 2 ^ 62) : CallF Tryz.prog n_lex_Name [.str s] (.bool (nameS s)) := by
  refine CallF.of_nil (of_lex_Name (by simp) ?_) rfl
  unfold b_lex_Name WpR
  intro Q hQr hQn hQp
  repeat' first | refine go_ ?_ | refine cf_ (lex_word _ hs) ?_ | refine cf_ (lex_reserved _) ?_ | refine br_ (fun hw => ?_) (fun hw => ?_) <;> try omega | fail
  all_goals refine leafE ?_ rfl
  all_goals (refine congrArg AV.bool ?_; simp [nameS]; try simp_all; try omega)
end Go.Proofs.YtdohdkdejmhgnaaGreatDoor
namespace Go.Proofs.YtdohdkdejmhgnaaGreatDoor
open Go.AM
set_option maxRecDepth 4000
end Go.Proofs.YtdohdkdejmhgnaaGreatDoor
namespace Go.Proofs.YtdohdkdejmhgnaaGreatDoor
open Go.AM
set_option maxRecDepth 4000
theorem takeWhile_more {p : UInt8 → Bool} : ∀ {s : Str} {i : Nat}, i ≤ (s.takeWhile p).length → i < s.length → p (s.getD i 0) = true → i < (s.takeWhile p).length
  | [], i, _, h, _ => by simp at h
  | c :: r, 0, _, _, hp => by simp only [List.getD_cons_zero] at hp; simp [List.takeWhile_cons, hp]
  | c :: r, i + 1, h1, h2, hp => by
    simp only [List.getD_cons_succ] at hp
    simp only [List.takeWhile_cons] at h1 ⊢
    split at h1
    · simp only [List.length_cons] at h1 h2 ⊢
      have := takeWhile_more (p := p) (s := r) (i := i) (by omega) (by omega) hp
      split <;> simp_all
    · simp at h1
def NInv (s : Str) (i : Nat) (v : Int) (over : Bool) : Prop := i ≤ (s.takeWhile digitB).length ∧ (over = false → numF (s.takeWhile digitB) 0 = numF ((s.takeWhile digitB).drop i) v) ∧ (over = true → numF (s.takeWhile digitB) 0 = none)
theorem NInv.step {s : Str} {i : Nat} {v : Int} (h : NInv s i v false) (hi : i < s.length) (hd : digitB (s.getD i 0) = true) :
    (v > (9223372036854775807 - (((s.getD i 0).toNat : Int) - 48)) / 10 → NInv s (i + 1) v true) ∧
    (¬ v > (9223372036854775807 - (((s.getD i 0).toNat : Int) - 48)) / 10 → NInv s (i + 1) (v * 10 + (((s.getD i 0).toNat : Int) - 48)) false) := by
  obtain ⟨h1, h2, _⟩ := h
  have hlt : i < (s.takeWhile digitB).length := takeWhile_more h1 hi hd
  have h3 := takeWhile_getD hlt
  have h4 : (s.takeWhile digitB).drop i = s.getD i 0 :: (s.takeWhile digitB).drop (i + 1) := by rw [drop_at0 hlt, ← h3.1]
  rw [h4] at h2
  simp only [numF] at h2
  refine ⟨fun hv => ⟨by omega, fun h => by simp at h, fun _ => ?_⟩, fun hv => ⟨by omega, fun _ => ?_, fun h => by simp at h⟩⟩
  · rw [h2 trivial, if_pos hv]
  · rw [h2 trivial, if_neg hv]
theorem NInv.over {s : Str} {i : Nat} {v : Int} (h : NInv s i v true) (hi : i < s.length) (hd : digitB (s.getD i 0) = true) : NInv s (i + 1) v true :=
  ⟨takeWhile_more h.1 hi hd, fun h => by simp at h, h.2.2⟩
theorem NInv.fin {s : Str} {i : Nat} {v : Int} {o : Bool} (h : NInv s i v o) (hi : i < s.length → digitB (s.getD i 0) = false) (hl : i ≤ s.length) : (s.takeWhile digitB).length = i ∧ numF (s.takeWhile digitB) 0 = if o then none else some v := by
  have hlen : (s.takeWhile digitB).length = i := by
    have h1 := h.1
    apply Nat.le_antisymm _ h1
    apply Nat.le_of_not_lt
    intro hlt
    have h3 := (takeWhile_getD hlt).2
    have : i < s.length := Nat.lt_of_lt_of_le hlt (takeWhile_le s)
    rw [hi this] at h3; cases h3
  refine ⟨hlen, ?_⟩
  cases o with
  | false => rw [h.2.1 rfl, List.drop_of_length_le (by omega)]; rfl
  | true => rw [h.2.2 rfl]; rfl
theorem before_succ {q : Nat → Prop} {i : Nat} (h : ∀ k, k < i → q k) (hi : q i) : ∀ k, k < i + 1 → q k := fun k hk => by
  by_cases h2 : k < i
  · exact h k h2
  · have : k = i := by omega
    subst this; exact hi
end Go.Proofs.YtdohdkdejmhgnaaGreatDoor
namespace Go.Proofs.YtdohdkdejmhgnaaGreatDoor
open Go.AM
set_option maxRecDepth 4000
theorem all_at {s : Str} {p : UInt8 → Bool} {i : Nat} (hi : i < s.length) (hp : p (s.getD i 0) = false) : s.all p = false := by
  rw [List.all_eq_false]
  refine ⟨s.getD i 0, ?_, ne_true_of_eq_false hp⟩
  rw [List.getD_eq_getElem?_getD, List.getElem?_eq_getElem hi]; exact List.getElem_mem hi
theorem all_non {s : Str} {p : UInt8 → Bool} (h : ∀ k, k < s.length → p (s.getD k 0) = true) : s.all p = true := by
  rw [List.all_eq_true]
  intro x hx
  obtain ⟨k, hk, rfl⟩ := List.getElem_of_mem hx
  have := h k hk
  rwa [List.getD_eq_getElem?_getD, List.getElem?_eq_getElem hk] at this
theorem printB_iff (c : UInt8) : printB c = true ↔ 32 ≤ c.toNat ∧ c.toNat ≤ 126 := by simp [printB]
theorem printB_niff (c : UInt8) : printB c = false ↔ c.toNat < 32 ∨ 126 < c.toNat := by
  rw [← Bool.not_eq_true, printB_iff]; omega
theorem value_plain (s : Str) : CallF Tryz.prog n_value_plain [.str s] (.bool (plainS s)) := by
  refine CallF.of_nil (of_value_plain (by simp) ?_) rfl
  unfold b_value_plain WpR
  intro Q hQr hQn hQp
  repeat' first | refine go_ ?_ | refine br_ (fun hw => ?_) (fun hw => ?_) <;> try omega | fail
  · refine leafE ?_ rfl
    simp only [plainS]; rw [decide_eq_false (by omega), Bool.false_and]
  with_reducible refine loop_i [2, 4, 10, 11, 12, 13, 14, 15, 16, 17, 18] (fun i : Nat => []) (fun i => [.siter s i]) (fun i => i ≤ s.length ∧ ∀ k, k < i → printB (s.getD k 0) = true) (fun i => s.length - i) 0 ?_ ?_ ?_ ?_
  · simp
  · rfl
  · exact at_
  rintro i r ⟨h1, h2⟩
  by_cases hi : i < s.length
  · by_cases ha : (s.getD i 0).toNat < 128
    · repeat' first | refine go_ ?_ | refine br_ (fun hw => ?_) (fun hw => ?_) <;> try omega | fail
      · refine leafE ?_ rfl
        simp only [plainS]; rw [all_at (p := printB) hi ((printB_niff _).2 (.inr (by omega))), Bool.and_false]
      · refine ⟨i + 1, ?_, ?_, by first | rfl | (simp [go_sem]; done), ou_, at_⟩ <;> (try dsimp only)
        · exact ⟨by omega, before_succ h2 ((printB_iff _).2 ⟨by omega, by omega⟩)⟩
        · omega
      · refine leafE ?_ rfl
        simp only [plainS]; rw [all_at (p := printB) hi ((printB_niff _).2 (.inl (by omega))), Bool.and_false]
    · have hw2 := wideRune_ge hi (by omega)
      repeat' first | refine go_ ?_ | refine br_ (fun hw => ?_) (fun hw => ?_) <;> try omega | fail
      all_goals refine leafE ?_ rfl
      all_goals (simp only [plainS]; rw [all_at (p := printB) hi ((printB_niff _).2 (.inr (by omega))), Bool.and_false])
  · have : i = s.length := by omega
    repeat' first | refine go_ ?_ | refine br_ (fun hw => ?_) (fun hw => ?_) <;> try omega | fail
    refine leafE ?_ rfl
    simp only [plainS]; rw [decide_eq_true (by omega), all_non (fun k hk => h2 k (by omega))]; rfl
theorem rightV_0 (n : Int) (s : Str) : rightV ⟨0, n, s⟩ = (decide (n = 0) && decide (s = [])) := rfl
theorem rightV_1 (n : Int) (s : Str) : rightV ⟨1, n, s⟩ = decide (s = []) := rfl
theorem rightV_2 (n : Int) (s : Str) : rightV ⟨2, n, s⟩ = (decide (n = 0) && plainS s) := rfl
theorem rightV_3 (n : Int) (s : Str) : rightV ⟨3, n, s⟩ = (decide (s = []) && (decide (n = 0) || decide (n = 1))) := rfl
theorem rightV_o (k n : Int) (s : Str) (h0 : k ≠ 0) (h1 : k ≠ 1) (h2 : k ≠ 2) (h3 : k ≠ 3) : rightV ⟨k, n, s⟩ = false := by
  simp [rightV, h0, h1, h2, h3]
def errB (b : Bool) : Int := if b then 0 else 2
theorem bv_andNot1 (x : BitVec 64) : x &&& ~~~ 1#64 = 0#64 ↔ x = 0#64 ∨ x = 1#64 := by
  constructor
  · intro h
    have hb : ∀ i, 1 ≤ i → i < 64 → x.getLsbD i = false := fun i h1 h2 => by
      have := congrArg (fun y => BitVec.getLsbD y i) h
      have h3 : (1#64).getLsbD i = false := by
        rw [BitVec.getLsbD_one]; simp; omega
      simp only [BitVec.getLsbD_and, BitVec.getLsbD_not, h3, h2, decide_true, Bool.not_false, Bool.and_true, BitVec.getLsbD_zero] at this
      exact this
    cases h0 : x.getLsbD 0 with
    | false =>
      left
      apply BitVec.eq_of_getLsbD_eq
      intro i hi
      by_cases hz : i = 0
      · subst hz; rw [h0]; rfl
      · rw [hb i (by omega) hi]; simp
    | true =>
      right
      apply BitVec.eq_of_getLsbD_eq
      intro i hi
      by_cases hz : i = 0
      · subst hz; rw [h0]; rfl
      · rw [hb i (by omega) hi, BitVec.getLsbD_one]; simp [hz]
  · rintro (rfl | rfl) <;> decide
theorem wrap64_zero (m : Nat) (h : m < 18446744073709551616) : IntKind.wrap .i64 m = 0 ↔ m = 0 := by
  simp only [IntKind.wrap, IntKind.bits, IntKind.signed]
  simp
  omega
theorem and1 (n : Int) (h : -9223372036854775808 ≤ n) (h' : n ≤ 9223372036854775807) : bitsO .andNot .i64 n 1 = 0 ↔ n = 0 ∨ n = 1 := by
  rw [bitsO_eq]
  show IntKind.wrap .i64 ((BitVec.ofInt 64 n &&& ~~~ BitVec.ofInt 64 1).toNat : Int) = 0 ↔ _
  rw [wrap64_zero _ (BitVec.isLt _)]
  have h1 : (BitVec.ofInt 64 n &&& ~~~ BitVec.ofInt 64 1).toNat = 0 ↔ BitVec.ofInt 64 n &&& ~~~ 1#64 = 0#64 := by
    rw [← BitVec.toNat_inj]; rfl
  rw [h1, bv_andNot1, ← BitVec.toNat_inj, ← BitVec.toNat_inj]
  simp only [BitVec.toNat_ofInt, BitVec.toNat_ofNat]
  omega
theorem value_Check (k n : Int) (s : Str) (h : -9223372036854775808 ≤ n) (h' : n ≤ 9223372036854775807) : CallF Tryz.prog n_value_Check [.agg [I k, I n, .str s]] (I (errB (rightV ⟨k, n, s⟩))) := by
  refine CallF.of_nil (of_value_Check (by simp) ?_) rfl
  unfold b_value_Check WpR
  intro Q hQr hQn hQp
  repeat' first | refine go_ ?_ | refine cf_ (value_plain _) ?_ | refine br_ (fun hw => ?_) (fun hw => ?_) <;> try omega | fail
  all_goals refine leafE ?_ rfl
  all_goals (refine congrArg I ?_; unfold errB; try rw [and1 n h h'] at hw)
  all_goals (try subst k)
  all_goals first
    | (rw [if_neg (by rw [rightV_0]; simp_all)]; done)
    | (rw [if_pos (by rw [rightV_0]; simp_all)]; done)
    | (rw [if_neg (by rw [rightV_1]; simp_all)]; done)
    | (rw [if_pos (by rw [rightV_1]; simp_all)]; done)
    | (rw [if_neg (by rw [rightV_2]; simp_all)]; done)
    | (rw [if_pos (by rw [rightV_2]; simp_all)]; done)
    | (rw [if_neg (by rw [rightV_3]; simp_all)]; done)
    | (rw [if_pos (by rw [rightV_3]; simp_all)]; done)
    | (rw [if_neg (by rw [rightV_o _ _ _ (by assumption) (by assumption) (by assumption) (by assumption)]; simp)])
end Go.Proofs.YtdohdkdejmhgnaaGreatDoor
namespace Go.Proofs.YtdohdkdejmhgnaaGreatDoor
open Go.AM
def v0 : Val := ⟨0, 0, []⟩
end Go.Proofs.YtdohdkdejmhgnaaGreatDoor
namespace Go.Proofs.YtdohdkdejmhgnaaGreatDoor
open Go.AM
set_option maxRecDepth 4000
def codeN (n : Int) : Nat := if n < 0 then (2 * (-1 - n) + 1).toNat else (2 * n).toNat
def varF : Nat → Nat → Str
  | 0, c => [UInt8.ofNat c]
  | f + 1, c => if c < 128 then [UInt8.ofNat c] else UInt8.ofNat (128 + c % 128) :: varF f (c / 128)
def numB (n : Int) : Str := varF 9 (codeN n)
def textB (s : Str) : Str := numB s.length ++ s
theorem codeN_lt {n : Int} (h : -9223372036854775808 ≤ n) (h' : n ≤ 9223372036854775807) : codeN n < 18446744073709551616 := by
  unfold codeN; split <;> omega
theorem u8 (n : Nat) (h : n < 256) : (UInt8.ofNat n).toNat = n := by simp [UInt8.toNat_ofNat']; omega
end Go.Proofs.YtdohdkdejmhgnaaGreatDoor
namespace Go.Proofs.YtdohdkdejmhgnaaGreatDoor
open Go.AM
set_option maxRecDepth 4000
def bytesV (v : Val) : Str := numB v.kind ++ (if v.kind = 2 then textB v.s else if v.kind = 1 ∨ v.kind = 3 then numB v.n else [])
def rowB (l : List Val) : Str := numB l.length ++ l.flatMap bytesV
theorem rightV_kind {v : Val} (h : rightV v = true) : v.kind = 0 ∧ v = v0 ∨ v.kind = 1 ∧ v.s = [] ∨ v.kind = 2 ∧ v.n = 0 ∧ v.s.length ≤ 40 ∨ v.kind = 3 ∧ v.s = [] := by
  obtain ⟨k, n, s⟩ := v
  unfold rightV at h
  dsimp only at h ⊢
  split at h
  · left; simp at h; simp [v0, *]
  split at h
  · right; left; simp at h; simp [*]
  split at h
  · right; right; left; simp [plainS] at h; simp [*]
  split at h
  · right; right; right; simp at h; simp [*]
  · cases h
end Go.Proofs.YtdohdkdejmhgnaaGreatDoor
namespace Go.Proofs.YtdohdkdejmhgnaaGreatDoor
open Go.AM
set_option maxRecDepth 4000
def eqL {α β : Type} (p : α → β → Bool) : List α → List β → Bool
  | [], [] => true
  | x :: r, y :: t => p x y && eqL p r t
  | _, _ => false
def rng (n : Int) : Prop := -9223372036854775808 ≤ n ∧ n ≤ 9223372036854775807
def okVals (l : List Val) : Prop := l.length ≤ 2 ^ 30 ∧ ∀ v ∈ l, rng v.n ∧ v.s.length ≤ 2 ^ 30
theorem nameS_16 {s : Str} (h : nameS s = true) : s.length ≤ 16 := by
  simp only [nameS, Bool.and_eq_true, decide_eq_true_eq] at h
  exact h.1.2
theorem right_ok {v : Val} (h : rightV v = true) : v.s.length ≤ 40 := by
  rcases rightV_kind h with ⟨_, h⟩ | ⟨_, h⟩ | ⟨_, _, h⟩ | ⟨_, h⟩
  · rw [h]; decide
  · rw [h]; decide
  · exact h
  · rw [h]; decide
theorem varF_len : ∀ (k c : Nat), (varF k c).length ≤ k + 1 := by
  intro k
  induction k with
  | zero => intro c; simp [varF]
  | succ k ih => intro c; rw [varF]; split
                 · simp
                 · have := ih (c / 128); simp; omega
theorem numB_len (n : Int) : (numB n).length ≤ 10 := varF_len 9 _
theorem take_succ {α : Type} [Inhabited α] {l : List α} {k : Nat} (h : k < l.length) : l.take (k + 1) = l.take k ++ [l.getD k default] := by
  rw [List.take_succ_eq_append_getElem h, List.getD_eq_getElem?_getD, List.getElem?_eq_getElem h]; rfl
theorem allF {α : Type} [Inhabited α] {p : α → Bool} {l : List α} {i : Nat} (hi : i < l.length) (h : p (l.getD i default) = false) : l.all p = false := by
  cases hq : l.all p with
  | false => rfl
  | true => rw [List.all_eq_true] at hq; rw [hq _ (getD_mem hi)] at h; cases h
theorem allN {α : Type} [Inhabited α] {p : α → Bool} {l : List α} (h : ∀ k, k < l.length → p (l.getD k default) = true) : l.all p = true := by
  rw [List.all_eq_true]
  intro x hx
  obtain ⟨i, hi, rfl⟩ := List.getElem_of_mem hx
  have := h i hi
  rwa [List.getD_eq_getElem?_getD, List.getElem?_eq_getElem hi, Option.getD_some] at this
end Go.Proofs.YtdohdkdejmhgnaaGreatDoor
namespace Go.Proofs.YtdohdkdejmhgnaaGreatDoor
open Go.AM
set_option maxRecDepth 4000
structure Ent where
  table : Str
  ver : Int
  input : List Val
  err : Int
  rules : List Int
  rows : List (List Val)
deriving Inhabited
def plainV (l : List Val) : Bool := decide (l.length ≤ 6) && l.all rightV
def lastK (l : List Int) (k : Nat) : Int := if k = 0 then -1 else l.getD (k - 1) 0
def riseK (l : List Int) (k : Nat) : Bool := decide (lastK l k < l.getD k 0 ∧ l.getD k 0 < 24)
def riseS (l : List Int) : Bool := (List.range l.length).all (riseK l)
def rightE (e : Ent) : Bool := nameS e.table && decide (1 ≤ e.ver ∧ e.ver ≤ 2147483648) && decide (0 ≤ e.err ∧ e.err ≤ 99) && riseS e.rules && decide (e.rows.length ≤ 24) && plainV e.input && e.rows.all plainV
def textE (e : Ent) : Str := textB e.table ++ numB e.ver ++ rowB e.input ++ (numB e.err ++ numB e.rules.length) ++ e.rules.flatMap numB ++ numB e.rows.length ++ e.rows.flatMap rowB
def checkE (e : Ent) : Int := if rightE e = false then 2 else if 1400 < (textE e).length then 5 else 0
def bytesE (e : Ent) : Str × Int := if checkE e ≠ 0 then ([], checkE e) else (textE e, 0)
theorem rise_at {l : List Int} (h : riseS l = true) {k : Nat} (hk : k < l.length) : lastK l k < l.getD k 0 ∧ l.getD k 0 < 24 := by
  have := List.all_eq_true.1 h k (List.mem_range.2 hk)
  simpa [riseK] using this
theorem rise_ge {l : List Int} (h : riseS l = true) : ∀ k, k < l.length → (k : Int) ≤ l.getD k 0 := by
  intro k
  induction k with
  | zero => intro hk; have := (rise_at h hk).1; unfold lastK at this; rw [if_pos rfl] at this; omega
  | succ k ih =>
    intro hk
    have h1 := ih (by omega)
    have h2 := (rise_at h hk).1
    unfold lastK at h2
    rw [if_neg (by omega), Nat.add_sub_cancel] at h2
    omega
theorem rise_len {l : List Int} (h : riseS l = true) : l.length ≤ 24 := by
  rcases Nat.lt_or_ge 24 l.length with hn | hn
  · have h1 := rise_ge h 24 hn
    have h2 := (rise_at h hn).2
    omega
  · exact hn
theorem rightE_all {e : Ent} (h : rightE e = true) : nameS e.table = true ∧ (1 ≤ e.ver ∧ e.ver ≤ 2147483648) ∧ (0 ≤ e.err ∧ e.err ≤ 99) ∧ riseS e.rules = true ∧ e.rows.length ≤ 24 ∧ plainV e.input = true ∧ ∀ l ∈ e.rows, plainV l = true := by
  simp only [rightE, Bool.and_eq_true, decide_eq_true_eq, List.all_eq_true] at h
  obtain ⟨⟨⟨⟨⟨⟨h1, h2⟩, h3⟩, h4⟩, h5⟩, h6⟩, h7⟩ := h
  exact ⟨h1, h2, h3, h4, h5, h6, h7⟩
def okEnt (e : Ent) : Prop := e.table.length ≤ 2 ^ 30 ∧ rng e.ver ∧ okVals e.input ∧ rng e.err ∧ (e.rules.length ≤ 2 ^ 30 ∧ ∀ n ∈ e.rules, rng n) ∧ e.rows.length ≤ 2 ^ 30 ∧ ∀ l ∈ e.rows, okVals l
theorem plainV_all {l : List Val} (h : plainV l = true) : l.length ≤ 6 ∧ ∀ v ∈ l, rightV v = true := by
  simp only [plainV, Bool.and_eq_true, decide_eq_true_eq, List.all_eq_true] at h; exact h
theorem checkE_zero {e : Ent} (h : checkE e = 0) : rightE e = true ∧ (textE e).length ≤ 1400 := by
  unfold checkE at h
  split at h
  · cases h
  · rename_i h1
    split at h
    · cases h
    · exact ⟨by simpa using h1, by omega⟩
end Go.Proofs.YtdohdkdejmhgnaaGreatDoor
namespace Go.Proofs.YtdohdkdejmhgnaaGreatDoor
open Go.AM
set_option maxRecDepth 4000
theorem wrap_u64 (x : Int) : wrapK .u64 x = x % 18446744073709551616 := rfl
theorem wrap_u8 (x : Int) : wrapK .u8 x = x % 256 := rfl
theorem wrap_i64 (x : Int) : wrapK .i64 x = if 9223372036854775808 ≤ x % 18446744073709551616 then x % 18446744073709551616 - 18446744073709551616 else x % 18446744073709551616 := by
  show IntKind.wrap .i64 x = _
  simp [IntKind.wrap, IntKind.bits, IntKind.signed]
theorem xor_zero (k : IntKind) (x : Nat) (h : x < 2 ^ k.bits) : ((BitVec.ofInt k.bits (x : Int)) ^^^ (BitVec.ofInt k.bits 0)).toNat = x := by
  have : BitVec.ofInt k.bits 0 = 0#k.bits := by simp
  rw [this, BitVec.xor_zero]
  simp [Nat.mod_eq_of_lt h]
theorem xor_ones64 (x : Nat) (h : x < 18446744073709551616) (y : Int) (hy : y % 18446744073709551616 = 18446744073709551615) : ((BitVec.ofInt 64 (x : Int)) ^^^ (BitVec.ofInt 64 y)).toNat = 18446744073709551615 - x := by
  have e : BitVec.ofInt 64 y = BitVec.allOnes 64 := by
    apply BitVec.eq_of_toNat_eq
    rw [BitVec.toNat_ofInt, BitVec.toNat_allOnes]; omega
  rw [e, BitVec.xor_allOnes, BitVec.toNat_not]
  have : (BitVec.ofInt 64 (x : Int)).toNat = x := by rw [BitVec.toNat_ofInt]; omega
  rw [this]
theorem code_bits {n : Int} (h : -9223372036854775808 ≤ n ∧ n ≤ 9223372036854775807) : bitsO .xor .u64 (wrapK .u64 (wrapK .u64 n * 2)) (wrapK .u64 (n.fdiv 9223372036854775808)) = codeN n := by
  rw [bitsO_eq]
  show wrapK .u64 (((BitVec.ofInt 64 (wrapK .u64 (wrapK .u64 n * 2))) ^^^ (BitVec.ofInt 64 (wrapK .u64 (n.fdiv 9223372036854775808)))).toNat : Int) = codeN n
  rw [Int.fdiv_eq_ediv_of_nonneg _ (by decide)]
  simp only [wrap_u64]
  unfold codeN
  by_cases hn : n < 0
  · rw [if_pos hn]
    have e1 : (n % 18446744073709551616 * 2 % 18446744073709551616 : Int) = ((2 * n + 18446744073709551616).toNat : Int) := by omega
    rw [e1, xor_ones64 _ (by omega) _ (by omega)]
    omega
  · rw [if_neg hn]
    have e1 : (n % 18446744073709551616 * 2 % 18446744073709551616 : Int) = ((2 * n).toNat : Int) := by omega
    have e2 : (n / 9223372036854775808 % 18446744073709551616 : Int) = 0 := by omega
    rw [e1, e2]
    have := xor_zero .u64 (2 * n).toNat (by show _ < 18446744073709551616; omega)
    have e3 : IntKind.u64.bits = 64 := rfl
    rw [e3] at this
    rw [this]; omega
theorem and_mask (w k x : Nat) (hx : x < 2 ^ w) (hk : k ≤ w) : ((BitVec.ofInt w (x : Int)) &&& (BitVec.ofInt w ((2 ^ k - 1 : Nat) : Int))).toNat = x % 2 ^ k := by
  have h2 : 2 ^ k - 1 < 2 ^ w := Nat.lt_of_lt_of_le (Nat.sub_lt (Nat.pow_pos (by decide)) (by decide)) (Nat.pow_le_pow_right (by decide) hk)
  rw [BitVec.toNat_and]
  have e1 : (BitVec.ofInt w (x : Int)).toNat = x := by rw [BitVec.ofInt_natCast, BitVec.toNat_ofNat, Nat.mod_eq_of_lt hx]
  have e2 : (BitVec.ofInt w ((2 ^ k - 1 : Nat) : Int)).toNat = 2 ^ k - 1 := by rw [BitVec.ofInt_natCast, BitVec.toNat_ofNat, Nat.mod_eq_of_lt h2]
  rw [e1, e2, Nat.and_two_pow_sub_one_eq_mod]
theorem low_bits {x : Int} {c : Nat} (h : x % 256 = ((c % 256 : Nat) : Int)) : bitsO .and .u8 (wrapK .u8 x) 127 = ((c % 128 : Nat) : Int) := by
  rw [bitsO_eq]
  show wrapK .u8 (((BitVec.ofInt 8 (wrapK .u8 x)) &&& (BitVec.ofInt 8 127)).toNat : Int) = _
  have := and_mask 8 7 (c % 256) (by omega) (by decide)
  have e : ((2 ^ 7 - 1 : Nat) : Int) = 127 := by decide
  rw [e] at this
  rw [wrap_u8 x, h, this, wrap_u8]; omega
theorem or_low {w k x : Nat} {y : Nat} (hx : x < 2 ^ k) (hw : 2 ^ k * y + x < 2 ^ w) : ((BitVec.ofInt w (x : Int)) ||| (BitVec.ofInt w ((2 ^ k * y : Nat) : Int))).toNat = 2 ^ k * y + x := by
  rw [BitVec.toNat_or]
  have e1 : (BitVec.ofInt w (x : Int)).toNat = x := by rw [BitVec.ofInt_natCast, BitVec.toNat_ofNat, Nat.mod_eq_of_lt (by omega)]
  have e2 : (BitVec.ofInt w ((2 ^ k * y : Nat) : Int)).toNat = 2 ^ k * y := by rw [BitVec.ofInt_natCast, BitVec.toNat_ofNat, Nat.mod_eq_of_lt (by omega)]
  rw [e1, e2, Nat.or_comm, Nat.two_pow_add_eq_or_of_lt hx]
theorem more_bits {d : Nat} (h : d < 128) : bitsO .or .u8 (d : Int) 128 = ((128 + d : Nat) : Int) := by
  rw [bitsO_eq]
  show wrapK .u8 (((BitVec.ofInt 8 (d : Int)) ||| (BitVec.ofInt 8 128)).toNat : Int) = _
  have := or_low (w := 8) (k := 7) (x := d) (y := 1) (by omega) (by omega)
  have e : ((2 ^ 7 * 1 : Nat) : Int) = 128 := by decide
  rw [e] at this
  rw [this, wrap_u8]; omega
def lowB (c : Nat) : UInt8 := UInt8.ofNat (c % 128)
def moreB (c : Nat) : UInt8 := UInt8.ofNat (128 + c % 128)
theorem lowB_nat (c : Nat) : ((c % 128 : Nat) : Int) = ((lowB c).toNat : Int) := by rw [lowB, u8 _ (by omega)]
theorem moreB_nat (c : Nat) : bitsO .or .u8 ((lowB c).toNat : Int) 128 = ((moreB c).toNat : Int) := by
  rw [← lowB_nat, more_bits (by omega), moreB, u8 _ (by omega)]
theorem eB_snoc (s : Str) (b : UInt8) : eBytes s ++ [AV.int .u8 b.toNat] = eBytes (s ++ [b]) := by simp
theorem varF_low {k c : Nat} (h : c < 128) : varF k c = [lowB c] := by
  rw [lowB, Nat.mod_eq_of_lt h]; cases k with
  | zero => rfl
  | succ k => rw [varF, if_pos h]
theorem varF_more {k c : Nat} (h : 128 ≤ c) : varF (k + 1) c = moreB c :: varF k (c / 128) := by rw [varF, if_neg (by omega)]; rfl
theorem octet_code (n : Int) (h : rng n) : CallF Tryz.prog n_octet_code [I n] (.int .u64 (codeN n)) := by
  refine CallF.of_nil (of_octet_code (by simp) ?_) rfl
  unfold b_octet_code WpR
  intro Q hQr hQn hQp
  repeat' first | refine go_ ?_ | refine br_ (fun hw => ?_) (fun hw => ?_) <;> try omega | fail
  refine leafE ?_ rfl
  exact congrArg (AV.int .u64) (code_bits h)
theorem octet_low64 (c : Nat) : CallF Tryz.prog n_octet_low_uint64 [.int .u64 c] (.int .u8 ((lowB c).toNat)) := by
  refine CallF.of_nil (of_octet_low_uint64 (by simp) ?_) rfl
  unfold b_octet_low_uint64 WpR
  intro Q hQr hQn hQp
  repeat' first | refine go_ ?_ | refine br_ (fun hw => ?_) (fun hw => ?_) <;> try omega | fail
  refine leafE ?_ rfl
  refine congrArg (AV.int .u8) ?_
  rw [← lowB_nat]
  exact low_bits (by omega)
theorem octet_Num (n : Int) (h : rng n) : CallF Tryz.prog n_octet_Num [I n] (.str (numB n)) := by
  have hc := codeN_lt h.1 h.2
  obtain ⟨E, hE⟩ : ∃ E, numB n = E := ⟨_, rfl⟩
  rw [hE]
  unfold numB at hE
  have h1 := octet_code n h
  generalize codeN n = c0 at *
  refine CallF.of_nil (of_octet_Num (by simp) ?_) rfl
  unfold b_octet_Num WpR
  intro Q hQr hQn hQp
  repeat' first | refine go_ ?_ | refine cf_ h1 ?_ | refine br_ (fun hw => ?_) (fun hw => ?_) <;> try omega | fail
  with_reducible refine loop_i [3, 4, 8, 9, 10, 11, 12, 13, 14, 15, 16, 17] (fun q : Nat × Str × Nat => [(3, .int .u64 q.2.2), (4, .own E1 0 q.2.1.length 0 q.2.1.length)]) (fun q => [.vec E1 (eBytes q.2.1)]) (fun q => q.1 ≤ 9 ∧ q.2.1.length = q.1 ∧ q.2.2 * 128 ^ q.1 < 18446744073709551616 ∧ E = q.2.1 ++ varF (9 - q.1) q.2.2) (fun q => 10 - q.1) ((0, [], c0)) ?_ ?_ ?_ ?_
  · exact ⟨by omega, rfl, by show c0 * 1 < _; omega, by simp [hE]⟩
  · rfl
  · exact at_
  rintro ⟨i, s, c⟩ r ⟨g1, g2, g3, g4⟩
  dsimp only at g1 g2 g3 g4
  have hl := octet_low64 c
  have hm := moreB_nat c
  have hq : (c : Int).fdiv (2 ^ (Int.toNat 7).min 64) = ((c / 128 : Nat) : Int) := by
    show (c : Int).fdiv 128 = _
    rw [Int.fdiv_eq_ediv_of_nonneg _ (by decide)]; omega
  by_cases hb : 128 ≤ c
  · have hi : i < 9 := by
      rcases Nat.lt_or_ge i 9 with h | h
      · exact h
      · obtain rfl : i = 9 := by omega
        have e : (128 : Nat) ^ 9 = 9223372036854775808 := by decide
        rw [e] at g3; omega
    obtain ⟨k, hk⟩ : ∃ k, 9 - i = k + 1 := ⟨8 - i, by omega⟩
    rw [hk, varF_more hb] at g4
    repeat' first | simp (disch := omega) only [go_sem, hQr, hQn, hQp, wrapK_i64, wrapK_u8, wrapK_u64, Nat.reduceAdd, Nat.reduceBEq, ↓reduceIte, hm, hq, eB_snoc] | refine go_ ?_ | refine cf_ hl ?_ | refine br_ (fun hw => ?_) (fun hw => ?_) <;> try omega | fail
    refine ⟨(i + 1, s ++ [moreB c], c / 128), ?_, ?_, ?_, ou_, at_⟩ <;> (try dsimp only)
    · refine ⟨by omega, by simp [g2], ?_, ?_⟩
      · have e2 : c / 128 * 128 ^ (i + 1) = 128 * (c / 128) * 128 ^ i := by
          rw [Nat.pow_succ, Nat.mul_comm (128 ^ i) 128, ← Nat.mul_assoc, Nat.mul_comm (c / 128) 128]
        exact Nat.lt_of_le_of_lt (by rw [e2]; exact Nat.mul_le_mul_right _ (by omega)) g3
      · have : 9 - (i + 1) = k := by omega
        rw [this]; simp [g4]
    · omega
    all_goals (simp [g2]; done)
  · rw [varF_low (by omega)] at g4
    repeat' first | simp (disch := omega) only [go_sem, hQr, hQn, hQp, wrapK_i64, wrapK_u8, wrapK_u64, Nat.reduceAdd, Nat.reduceBEq, ↓reduceIte, eB_snoc] | refine go_ ?_ | refine cf_ hl ?_ | refine br_ (fun hw => ?_) (fun hw => ?_) <;> try omega | fail
    exact leafE (by rw [g4]) rfl
theorem octet_Text (s : Str) (hs : s.length ≤ 2 ^ 61) : CallF Tryz.prog n_octet_Text [.str s] (.str (textB s)) := by
  have h1 := octet_Num s.length ⟨by omega, by omega⟩
  have h2 := numB_len s.length
  unfold textB
  generalize numB s.length = x at *
  refine CallF.of_nil (of_octet_Text (by simp) ?_) rfl
  unfold b_octet_Text WpR
  intro Q hQr hQn hQp
  have hadd : ((x.length + s.length : Nat) : Int) ≤ IntKind.i64.max := by show _ ≤ (9223372036854775807 : Int); omega
  repeat' first | refine go_ ?_ | refine cf_ h1 ?_ | refine br_ (fun hw => ?_) (fun hw => ?_) <;> try omega | fail
  exact leafE rfl rfl
end Go.Proofs.YtdohdkdejmhgnaaGreatDoor
namespace Go.Proofs.YtdohdkdejmhgnaaGreatDoor
open Go.AM
set_option maxRecDepth 4000
end Go.Proofs.YtdohdkdejmhgnaaGreatDoor
namespace Go.Proofs.YtdohdkdejmhgnaaGreatDoor
open Go.AM
set_option maxRecDepth 4000
def bytesR (v : Val) : Str × Int := if rightV v then (bytesV v, 0) else ([], 2)
theorem bytesV_len (v : Val) : (bytesV v).length ≤ 30 + v.s.length := by
  have h1 := numB_len v.kind
  have h2 := numB_len v.n
  have h3 := numB_len v.s.length
  unfold bytesV textB
  rw [List.length_append]
  split
  · rw [List.length_append]; omega
  split
  · omega
  · simp; omega
theorem value_Bytes (k n : Int) (s : Str) (hn : rng n) (hs : s.length ≤ 2 ^ 60) : CallF Tryz.prog n_value_Bytes [.agg [I k, I n, .str s]] (.tup [.str (bytesR ⟨k, n, s⟩).1, I (bytesR ⟨k, n, s⟩).2]) := by
  have c1 := value_Check k n s hn.1 hn.2
  obtain ⟨E, hE⟩ : ∃ E, bytesR ⟨k, n, s⟩ = E := ⟨_, rfl⟩
  rw [hE]
  unfold bytesR bytesV at hE
  dsimp only at hE
  have hk := @rightV_kind ⟨k, n, s⟩
  dsimp only at hk
  generalize rightV ⟨k, n, s⟩ = b at *
  cases b
  · simp only [errB, Bool.false_eq_true, if_false] at c1 hE
    refine CallF.of_nil (of_value_Bytes (by simp) ?_) rfl
    unfold b_value_Bytes WpR
    intro Q hQr hQn hQp
    repeat' first | refine go_ ?_ | refine cf_ c1 ?_ | refine br_ (fun hw => ?_) (fun hw => ?_) <;> try omega | fail
    exact leafNE (by rw [← hE]) rfl
  have hk := hk rfl
  simp only [errB, if_true] at c1 hE
  have c2 := octet_Num k ⟨by omega, by omega⟩
  have c3 := octet_Num n hn
  have c4 := octet_Text s (by omega)
  have l1 := numB_len k
  have l2 := numB_len n
  have l3 : (textB s).length ≤ 10 + s.length := by unfold textB; have := numB_len s.length; rw [List.length_append]; omega
  generalize numB k = x at *
  generalize numB n = y at *
  generalize textB s = z at *
  have a1 : ((x.length + y.length : Nat) : Int) ≤ IntKind.i64.max := by show _ ≤ (9223372036854775807 : Int); omega
  have a2 : ((x.length + z.length : Nat) : Int) ≤ IntKind.i64.max := by show _ ≤ (9223372036854775807 : Int); omega
  refine CallF.of_nil (of_value_Bytes (by simp) ?_) rfl
  unfold b_value_Bytes WpR
  intro Q hQr hQn hQp
  repeat' first | refine go_ ?_ | refine cf_ c1 ?_ | refine cf_ c2 ?_ | refine cf_ c3 ?_ | refine cf_ c4 ?_ | refine br_ (fun hw => ?_) (fun hw => ?_) <;> try omega | fail
  all_goals first
    | exact ab_
    | (refine leafNE ?_ rfl; rw [← hE]; simp_all; done)
    | (refine leafNE ?_ rfl; rw [← hE, if_neg (by omega), if_neg (by omega), List.append_nil]; done)
end Go.Proofs.YtdohdkdejmhgnaaGreatDoor
namespace Go.Proofs.YtdohdkdejmhgnaaGreatDoor
open Go.AM
def valB (v : Val) : Bool := decide (v.s.length ≤ 300)
end Go.Proofs.YtdohdkdejmhgnaaGreatDoor
namespace Go.Proofs.YtdohdkdejmhgnaaGreatDoor
open Go.AM
set_option maxRecDepth 4000
def rowR (l : List Val) : Str × Int := if l.all rightV then (rowB l, 0) else ([], 2)
theorem rowB_snoc {l : List Val} {i : Nat} (hi : i < l.length) (x : Str) : x ++ (l.take (i + 1)).flatMap bytesV = (x ++ (l.take i).flatMap bytesV) ++ bytesV (l.getD i default) := by
  rw [take_succ hi, List.flatMap_append]; simp
theorem value_Row (l : List Val) (hl : okVals l) : CallF Tryz.prog n_value_Row [eVals l] (.tup [.str (rowR l).1, I (rowR l).2]) := by
  obtain ⟨hl1, hl2⟩ := hl
  have h1 := octet_Num l.length ⟨by omega, by omega⟩
  have h2 := numB_len l.length
  obtain ⟨E, hE⟩ : ∃ E, rowR l = E := ⟨_, rfl⟩
  rw [hE]
  unfold rowR rowB at hE
  generalize numB l.length = x at *
  simp only [eVals]
  refine CallF.of_nil (of_value_Row (by simp) ?_) (by simp)
  unfold b_value_Row WpR
  intro Q hQr hQn hQp
  repeat' first | refine go_ ?_ | refine cf_ h1 ?_ | refine br_ (fun hw => ?_) (fun hw => ?_) <;> try omega | fail
  with_reducible refine loop_i [2, 3, 4, 6, 7, 8, 14, 15, 16, 17, 18, 19, 20, 21, 22, 23, 24, 25, 26, 27, 28, 29] (fun q : Nat × List AObj => [(14, I q.1), (4, .str (x ++ (l.take q.1).flatMap bytesV))]) (fun q => q.2) (fun q => q.1 ≤ l.length ∧ (∀ k, k < q.1 → rightV (l.getD k default) = true) ∧ x.length + ((l.take q.1).flatMap bytesV).length ≤ 10 + q.1 * 2147483648) (fun q => l.length - q.1) ((0, [])) ?_ ?_ ?_ ?_
  · simp; omega
  · rfl
  · simp only [List.take_zero, List.flatMap_nil, List.append_nil]; simp (disch := omega) only [at_nil, at_cons, and_true, go_sem, hQr, hQn, hQp, wrapK_i64, wrapK_u8, wrapK_u64, Nat.reduceAdd, Nat.reduceBEq, ↓reduceIte, Int.natCast_add, Int.cast_ofNat_Int] <;> (try trivial) <;> (try omega) <;> (try (repeat (first | trivial | (refine And.intro ?_ ?_) | (congr 1; omega))))
  rintro ⟨i, τ⟩ r ⟨g1, g2, g3⟩
  dsimp only at g1 g2 g3
  by_cases hi : i < l.length
  · have hv := hl2 _ (getD_mem hi)
    have hne := fun h => allF (p := rightV) hi h
    have hbs := fun he => before_succ (q := fun k => rightV (l.getD k default) = true) g2 (i := i) he
    have hsn := rowB_snoc hi x
    obtain ⟨v, hve⟩ : ∃ v, l.getD i default = v := ⟨_, rfl⟩
    rw [hve] at hv hne hbs hsn
    have h3 := value_Bytes v.kind v.n v.s hv.1 (by omega)
    have hbl := bytesV_len v
    have ev : bytesR ⟨v.kind, v.n, v.s⟩ = bytesR v := rfl
    rw [ev] at h3
    unfold bytesR at h3
    obtain ⟨y, hy⟩ : ∃ y, x ++ (l.take i).flatMap bytesV = y := ⟨_, rfl⟩
    have hyl : y.length = x.length + ((l.take i).flatMap bytesV).length := by rw [← hy, List.length_append]
    have hsl := congrArg List.length hsn
    rw [hy] at hsn
    simp only [List.length_append] at hsl
    have hadd : ((y.length + (bytesV v).length : Nat) : Int) ≤ IntKind.i64.max := by show _ ≤ (9223372036854775807 : Int); omega
    generalize rightV v = b at *
    cases b
    · simp only [Bool.false_eq_true, if_false] at h3
      rw [hne rfl] at hE
      simp only [Bool.false_eq_true, if_false] at hE
      repeat' first | simp (disch := omega) only [go_sem, hQr, hQn, hQp, wrapK_i64, wrapK_u8, wrapK_u64, Nat.reduceAdd, Nat.reduceBEq, ↓reduceIte, hve, hy] | refine go_ ?_ | refine cf_ h3 ?_ | refine br_ (fun hw => ?_) (fun hw => ?_) <;> try omega | fail
      all_goals first | exact ab_ | (exact leafNE (by rw [← hE]) rfl)
    · simp only [if_true] at h3
      repeat' first | simp (disch := omega) only [go_sem, hQr, hQn, hQp, wrapK_i64, wrapK_u8, wrapK_u64, Nat.reduceAdd, Nat.reduceBEq, ↓reduceIte, hve, hy] | refine go_ ?_ | refine cf_ h3 ?_ | refine br_ (fun hw => ?_) (fun hw => ?_) <;> try omega | fail
      all_goals first
        | exact ab_
        | (refine ⟨(i + 1, τ ++ [AObj.cells [I v.kind, I v.n, .str v.s]]), ?_, ?_, ?_, ou_, ?_⟩
           · refine ⟨by dsimp only; omega, hbs rfl, ?_⟩
             dsimp only
             omega
           · dsimp only; omega
           · first | rfl | (simp [go_sem]; done)
           · dsimp only; rw [hsn]; simp (disch := omega) only [at_nil, at_cons, and_true, go_sem, hQr, hQn, hQp, wrapK_i64, wrapK_u8, wrapK_u64, Nat.reduceAdd, Nat.reduceBEq, ↓reduceIte, Int.natCast_add, Int.cast_ofNat_Int] <;> (try trivial) <;> (try omega) <;> (try (repeat (first | trivial | (refine And.intro ?_ ?_) | (congr 1; omega)))))
  · have ht : l.take i = l := List.take_of_length_le (by omega)
    rw [allN (fun k hk => g2 k (by omega)), if_pos rfl] at hE
    repeat' first | simp (disch := omega) only [go_sem, hQr, hQn, hQp, wrapK_i64, wrapK_u8, wrapK_u64, Nat.reduceAdd, Nat.reduceBEq, ↓reduceIte, ht] | refine go_ ?_ | refine br_ (fun hw => ?_) (fun hw => ?_) <;> try omega | fail
    exact leafNE (by rw [← hE]) rfl
theorem law16_Few (l : List Val) : CallF Tryz.prog n_law16_Row_Few [eVals l] (.bool (decide (l.length ≤ 12) && l.all valB)) := by
  obtain ⟨E, hE⟩ : ∃ E, (decide (l.length ≤ 12) && l.all valB) = E := ⟨_, rfl⟩
  rw [hE]
  simp only [eVals]
  refine CallF.of_nil (of_law16_Row_Few (by simp) ?_) (by simp)
  unfold b_law16_Row_Few WpR
  intro Q hQr hQn hQp
  repeat' first | refine go_ ?_ | refine br_ (fun hw => ?_) (fun hw => ?_) <;> try omega | fail
  · exact leafE (by rw [← hE, decide_eq_false (by omega), Bool.false_and]) rfl
  have h12 : l.length ≤ 12 := by omega
  rw [decide_eq_true h12, Bool.true_and] at hE
  with_reducible refine loop_i [2, 3, 7, 8, 9, 10, 11, 12, 13, 14, 15, 16, 17, 18, 19] (fun q : Nat => [(3, I q)]) (fun _ => []) (fun q => q ≤ l.length ∧ ∀ k, k < q → valB (l.getD k default) = true) (fun q => l.length - q) (0) ?_ ?_ ?_ ?_
  · simp
  · rfl
  · exact at_
  rintro i r ⟨g1, g2⟩
  by_cases hi : i < l.length
  · have hne := fun h => allF (p := valB) hi h
    have hbs := fun he => before_succ (q := fun k => valB (l.getD k default) = true) g2 (i := i) he
    obtain ⟨v, hve⟩ : ∃ v, l.getD i default = v := ⟨_, rfl⟩
    rw [hve] at hne hbs
    have hS : valB v = decide (v.s.length ≤ 300) := rfl
    rw [hS] at hne hbs
    repeat' first | simp (disch := omega) only [go_sem, hQr, hQn, hQp, wrapK_i64, wrapK_u8, wrapK_u64, Nat.reduceAdd, Nat.reduceBEq, ↓reduceIte, hve] | refine go_ ?_ | refine br_ (fun hw => ?_) (fun hw => ?_) <;> try omega | fail
    all_goals first
      | exact ab_
      | (exact leafE (by rw [← hE, hne (decide_eq_false (by omega))]) rfl)
      | (refine ⟨i + 1, ?_, ?_, by first | rfl | (simp [go_sem]; done), ou_, at_⟩ <;> (try dsimp only)
         · exact ⟨by omega, hbs (decide_eq_true (by omega))⟩
         · omega)
  · repeat' first | refine go_ ?_ | refine br_ (fun hw => ?_) (fun hw => ?_) <;> try omega | fail
    exact leafE (by rw [← hE, allN (fun k hk => g2 k (by omega))]) rfl
end Go.Proofs.YtdohdkdejmhgnaaGreatDoor
