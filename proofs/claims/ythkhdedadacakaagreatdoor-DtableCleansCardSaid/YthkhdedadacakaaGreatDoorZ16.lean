/- Part of a proof: see Root. -/
import Derived.Test.YthkhdedadacakaaGreatDoorZ15
set_option linter.unnecessarySimpa false
set_option linter.unusedSimpArgs false
set_option linter.unusedVariables false
namespace Go.Proofs.YthkhdedadacakaaGreatDoor
open Go.AM
abbrev Str := List UInt8
structure Val where
  kind : Int
  n : Int
  s : Str
deriving DecidableEq, Inhabited
structure Tok where
  kind : Int
  s : Str
  n : Int
  pos : Int
deriving DecidableEq, Inhabited
inductive Expr where
  | mk (op : Int) (v : Val) (s : Str) (l : List Expr)
instance : Inhabited Expr := ⟨.mk 0 ⟨0, 0, []⟩ [] []⟩
def Expr.op : Expr → Int | .mk op _ _ _ => op
def Expr.v : Expr → Val | .mk _ v _ _ => v
def Expr.s : Expr → Str | .mk _ _ s _ => s
def Expr.l : Expr → List Expr | .mk _ _ _ l => l
structure Test where
  kind : Int
  a : Expr
  b : Expr
  lo : Bool
  hi : Bool
deriving Inhabited
structure Cell where
  any : Bool
  neg : Bool
  tests : List Test
deriving Inhabited
structure Col where
  name : Str
  kind : Int
  order : List Val
deriving Inhabited
structure Rule where
  cells : List Str
  outs : List Str
deriving Inhabited
structure Table where
  name : Str
  ins : List Col
  outs : List Col
  policy : Int
  agg : Int
  rules : List Rule
deriving Inhabited
structure Line where
  cells : List Cell
  outs : List Expr
deriving Inhabited
structure Ready where
  table : Table
  lines : List Line
deriving Inhabited
abbrev I (n : Int) : AV := .int .i64 n
abbrev E1 : El := ⟨false, 1⟩
abbrev EV : El := ⟨true, 3⟩
abbrev ET : El := ⟨true, 4⟩
abbrev EX : El := ⟨true, 6⟩
abbrev ES : El := ⟨true, 15⟩
abbrev EC : El := ⟨true, 3⟩
abbrev ER : El := ⟨true, 2⟩
def eVal (v : Val) : AV := .agg [I v.kind, I v.n, .str v.s]
def eTok (t : Tok) : AV := .agg [I t.kind, .str t.s, I t.n, I t.pos]
def eStr (s : Str) : AV := .str s
def eExpr : Expr → AV
  | .mk op v s l => .agg [I op, I v.kind, I v.n, .str v.s, .str s, .lst false EX (l.map eExpr)]
def eExprs (l : List Expr) : AV := .lst false EX (l.map eExpr)
def eTest (t : Test) : AV := .agg [I t.kind, I t.a.op, I t.a.v.kind, I t.a.v.n, .str t.a.v.s, .str t.a.s, eExprs t.a.l, I t.b.op, I t.b.v.kind, I t.b.v.n, .str t.b.v.s, .str t.b.s, eExprs t.b.l, .bool t.lo, .bool t.hi]
def eTests (l : List Test) : AV := .lst false ES (l.map eTest)
def eCell (c : Cell) : AV := .agg [.bool c.any, .bool c.neg, eTests c.tests]
def eVals (l : List Val) : AV := .lst false EV (l.map eVal)
def eToks (l : List Tok) : AV := .lst false ET (l.map eTok)
def eStrs (l : List Str) : AV := .lst false E1 (l.map eStr)
def eCol (c : Col) : AV := .agg [.str c.name, I c.kind, eVals c.order]
def eCols (l : List Col) : AV := .lst false EC (l.map eCol)
def eRule (r : Rule) : AV := .agg [eStrs r.cells, eStrs r.outs]
def eRules (l : List Rule) : AV := .lst false ER (l.map eRule)
def cTable (t : Table) : List AV := [.str t.name, eCols t.ins, eCols t.outs, I t.policy, I t.agg, eRules t.rules]
def eTable (t : Table) : AV := .agg (cTable t)
def eCells (l : List Cell) : AV := .lst false EC (l.map eCell)
def eLine (l : Line) : AV := .agg [eCells l.cells, eExprs l.outs]
def eLines (l : List Line) : AV := .lst false ER (l.map eLine)
def eReady (r : Ready) : AV := .agg [.str r.table.name, eCols r.table.ins, eCols r.table.outs, I r.table.policy, I r.table.agg, eRules r.table.rules, eLines r.lines]
theorem eExpr_eq (x : Expr) : eExpr x = .agg [I x.op, I x.v.kind, I x.v.n, .str x.v.s, .str x.s, .lst false EX (x.l.map eExpr)] := by
  cases x; simp only [eExpr]; rfl
theorem Expr.eta (x : Expr) : Expr.mk x.op ⟨x.v.kind, x.v.n, x.v.s⟩ x.s x.l = x := by cases x; rfl
theorem Expr.ind {C : Expr → Prop} (h : ∀ op v s l, (∀ y ∈ l, C y) → C (.mk op v s l)) : ∀ x, C x
  | .mk op v s l => h op v s l fun y _ => Expr.ind h y
attribute [go_sem] eExpr_eq eVal eTok eTest eCell eCol eRule cTable eTable eLine eReady eStr eExprs eTests eVals eToks eStrs eCols eRules eCells eLines
@[go_sem] theorem Expr.op_mk (op : Int) (v : Val) (s : Str) (l : List Expr) : (Expr.mk op v s l).op = op := _root_.id rfl
@[go_sem] theorem Expr.v_mk (op : Int) (v : Val) (s : Str) (l : List Expr) : (Expr.mk op v s l).v = v := _root_.id rfl
@[go_sem] theorem Expr.s_mk (op : Int) (v : Val) (s : Str) (l : List Expr) : (Expr.mk op v s l).s = s := _root_.id rfl
@[go_sem] theorem Expr.l_mk (op : Int) (v : Val) (s : Str) (l : List Expr) : (Expr.mk op v s l).l = l := _root_.id rfl
attribute [go_sem] Expr.eta
theorem pur_eVal (v : Val) : (eVal v).pur = true := rfl
theorem pur_eTok (t : Tok) : (eTok t).pur = true := rfl
theorem pur_eExpr (x : Expr) : (eExpr x).pur = true := by
  induction x using Expr.ind with
  | h op v s l ih =>
    simp only [eExpr, AV.pur, AV.purL, Bool.true_and, Bool.and_true]
    rw [purL_iff]; intro a ha
    obtain ⟨y, hy, rfl⟩ := List.mem_map.1 ha
    exact ih y hy
theorem pur_eExprs (l : List Expr) : (eExprs l).pur = true := by simp only [eExprs, AV.pur]; exact purL_map _ _ pur_eExpr
theorem pur_eTest (t : Test) : (eTest t).pur = true := by simp [eTest, AV.pur, AV.purL, pur_eExprs]
theorem pur_eTests (l : List Test) : (eTests l).pur = true := by simp only [eTests, AV.pur]; exact purL_map _ _ pur_eTest
theorem pur_eCell (c : Cell) : (eCell c).pur = true := by simp [eCell, AV.pur, AV.purL, pur_eTests]
theorem pur_eVals (l : List Val) : (eVals l).pur = true := by simp only [eVals, AV.pur]; exact purL_map _ _ pur_eVal
theorem pur_eToks (l : List Tok) : (eToks l).pur = true := by simp only [eToks, AV.pur]; exact purL_map _ _ pur_eTok
theorem pur_eStrs (l : List Str) : (eStrs l).pur = true := by simp only [eStrs, AV.pur]; exact purL_map _ _ (fun _ => rfl)
theorem pur_eCol (c : Col) : (eCol c).pur = true := by simp [eCol, AV.pur, AV.purL, pur_eVals]
theorem pur_eCols (l : List Col) : (eCols l).pur = true := by simp only [eCols, AV.pur]; exact purL_map _ _ pur_eCol
theorem pur_eRule (r : Rule) : (eRule r).pur = true := by simp [eRule, AV.pur, AV.purL, pur_eStrs]
theorem pur_eRules (l : List Rule) : (eRules l).pur = true := by simp only [eRules, AV.pur]; exact purL_map _ _ pur_eRule
theorem pur_eTable (t : Table) : (eTable t).pur = true := by simp [eTable, cTable, AV.pur, AV.purL, pur_eCols, pur_eRules]
theorem pur_eCells (l : List Cell) : (eCells l).pur = true := by simp only [eCells, AV.pur]; exact purL_map _ _ pur_eCell
theorem pur_eLine (l : Line) : (eLine l).pur = true := by simp [eLine, AV.pur, AV.purL, pur_eCells, pur_eExprs]
theorem pur_eLines (l : List Line) : (eLines l).pur = true := by simp only [eLines, AV.pur]; exact purL_map _ _ pur_eLine
theorem pur_eReady (r : Ready) : (eReady r).pur = true := by simp [eReady, AV.pur, AV.purL, pur_eCols, pur_eRules, pur_eLines]
theorem purL_x (l : List Expr) : AV.purL (l.map eExpr) = true := purL_map _ _ pur_eExpr
theorem purL_v (l : List Val) : AV.purL (l.map eVal) = true := purL_map _ _ pur_eVal
theorem purL_t (l : List Tok) : AV.purL (l.map eTok) = true := purL_map _ _ pur_eTok
theorem purL_s (l : List Str) : AV.purL (l.map eStr) = true := purL_map _ _ (fun _ => rfl)
theorem purL_test (l : List Test) : AV.purL (l.map eTest) = true := purL_map _ _ pur_eTest
theorem purL_cell (l : List Cell) : AV.purL (l.map eCell) = true := purL_map _ _ pur_eCell
theorem purL_col (l : List Col) : AV.purL (l.map eCol) = true := purL_map _ _ pur_eCol
theorem purL_rule (l : List Rule) : AV.purL (l.map eRule) = true := purL_map _ _ pur_eRule
theorem purL_line (l : List Line) : AV.purL (l.map eLine) = true := purL_map _ _ pur_eLine
attribute [simp] AV.pur AV.purL pur_eVal pur_eTok pur_eExpr pur_eExprs pur_eTest pur_eTests pur_eCell pur_eVals pur_eToks pur_eStrs pur_eCol pur_eCols pur_eRule pur_eRules pur_eTable pur_eCells pur_eLine pur_eLines pur_eReady purL_x purL_v purL_t purL_s purL_test purL_cell purL_col purL_rule purL_line
theorem getD_mem {α : Type} [Inhabited α] {l : List α} {i : Nat} (h : i < l.length) : l.getD i default ∈ l := by
  rw [List.getD_eq_getElem?_getD, List.getElem?_eq_getElem h]; exact List.getElem_mem h
def printB (c : UInt8) : Bool := decide (32 ≤ c.toNat) && decide (c.toNat ≤ 126)
def letterB (c : UInt8) : Bool := (decide (97 ≤ c.toNat) && decide (c.toNat ≤ 122)) || (decide (65 ≤ c.toNat) && decide (c.toNat ≤ 90)) || decide (c.toNat = 95)
def digitB (c : UInt8) : Bool := decide (48 ≤ c.toNat) && decide (c.toNat ≤ 57)
def wordB (c : UInt8) : Bool := letterB c || digitB c
def plainS (s : Str) : Bool := decide (s.length ≤ 40) && s.all printB
def rightV (v : Val) : Bool :=
  if v.kind = 0 then decide (v.n = 0) && decide (v.s = [])
  else if v.kind = 1 then decide (v.s = [])
  else if v.kind = 2 then decide (v.n = 0) && plainS v.s
  else if v.kind = 3 then decide (v.s = []) && (decide (v.n = 0) || decide (v.n = 1))
  else false
end Go.Proofs.YthkhdedadacakaaGreatDoor
namespace Go.Proofs.YthkhdedadacakaaGreatDoor
open Go.AM
def wordN (s : Str) : Nat := match s with
  | [] => 0
  | c :: _ => if letterB c then (s.takeWhile wordB).length else 0
structure PR where
  kind : Int
  s : Str
  n : Int
  len : Nat
  e : Int
deriving Inhabited, DecidableEq
def ePR (p : PR) : AV := .tup [.agg [I p.kind, .str p.s, I p.n, I 0, I p.len], I p.e]
def eTP (p : PR) : AV := .tup [.agg [I p.kind, .str p.s, I p.n, I 0], I p.len, I p.e]
attribute [go_sem] ePR eTP
def PR.err (e : Int) : PR := ⟨0, [], 0, 0, e⟩
def nameP (s : Str) : PR := if 16 < wordN s then .err 5 else ⟨1, s.take (wordN s), 0, wordN s, 0⟩
def numF : Str → Int → Option Int
  | [], v => some v
  | c :: r, v => if v > (9223372036854775807 - ((c.toNat : Int) - 48)) / 10 then none else numF r (v * 10 + ((c.toNat : Int) - 48))
def numberP (s : Str) : PR :=
  let n := (s.takeWhile digitB).length
  if 1 < n ∧ (s.getD 0 0).toNat = 48 then .err 11
  else match numF (s.takeWhile digitB) 0 with
    | none => .err 15
    | some v => ⟨2, [], v, n, 0⟩
def textF : Str → Str → Nat → PR
  | [], _, _ => .err 11
  | c :: r, b, i =>
    if c.toNat = 34 then (if 40 < b.length then .err 5 else ⟨3, b, 0, i + 1, 0⟩)
    else if c.toNat = 92 then
      match r with
      | [] => .err 11
      | d :: r' => if d.toNat = 34 ∨ d.toNat = 92 then textF r' (b ++ [d]) (i + 2) else .err 11
    else if printB c then textF r (b ++ [c]) (i + 1) else .err 11
theorem textF_cons (c : UInt8) (r b : Str) (i : Nat) : textF (c :: r) b i =
    if c.toNat = 34 then (if 40 < b.length then .err 5 else ⟨3, b, 0, i + 1, 0⟩)
    else if c.toNat = 92 then
      match r with
      | [] => .err 11
      | d :: r' => if d.toNat = 34 ∨ d.toNat = 92 then textF r' (b ++ [d]) (i + 2) else .err 11
    else if printB c then textF r (b ++ [c]) (i + 1) else .err 11 := by
  rw [textF.eq_def]; rfl
def marksL : List Str := [[46, 46], [33, 61], [60, 61], [62, 61], [40], [41], [91], [93], [44], [43], [45], [42], [47], [61], [60], [62]]
def markP (s : Str) : PR := match marksL.find? (fun m => m.isPrefixOf s) with
  | some m => ⟨4, m, 0, m.length, 0⟩
  | none => .err 11
def oneP (s : Str) : PR :=
  let c := s.getD 0 0
  if letterB c then nameP s else if digitB c then numberP s else if c.toNat = 34 then textF (s.drop 1) [] 1 else markP s
def lexF : Nat → Str → Nat → List Tok → List Tok × Int × Int
  | 0, _, _, acc => (acc, 0, 0)
  | _ + 1, [], _, acc => (acc, 0, 0)
  | f + 1, c :: r, pos, acc =>
    if c.toNat = 32 then lexF f r (pos + 1) acc
    else if (oneP (c :: r)).e = 0 then lexF f ((c :: r).drop (oneP (c :: r)).len) (pos + (oneP (c :: r)).len) (acc ++ [⟨(oneP (c :: r)).kind, (oneP (c :: r)).s, (oneP (c :: r)).n, pos⟩])
    else ([], pos, (oneP (c :: r)).e)
def lexS (s : Str) : List Tok × Int × Int := if 200 < s.length then ([], 0, 5) else lexF (s.length + 1) s 0 []
def reservedL : List Str := [[97, 110, 100], [111, 114], [110, 111, 116], [105, 102], [116, 104, 101, 110], [101, 108, 115, 101], [116, 114, 117, 101], [102, 97, 108, 115, 101], [110, 117, 108, 108]]
def reservedS (s : Str) : Bool := reservedL.contains s
def nameS (s : Str) : Bool := decide (s ≠ []) && decide (wordN s = s.length) && decide (s.length ≤ 16) && !reservedS s
theorem takeWhile_le {p : UInt8 → Bool} (s : Str) : (s.takeWhile p).length ≤ s.length := by
  induction s with
  | nil => simp
  | cons c s ih => simp only [List.takeWhile_cons]; split <;> simp; omega
theorem wordN_le (s : Str) : wordN s ≤ s.length := by
  unfold wordN; split
  · simp
  · split
    · exact takeWhile_le _
    · simp
theorem wordN_pos {s : Str} (h : letterB (s.getD 0 0) = true) (hs : s ≠ []) : 1 ≤ wordN s := by
  cases s with
  | nil => exact absurd rfl hs
  | cons c r =>
    simp only [List.getD_cons_zero] at h
    simp only [wordN, h, if_true, List.takeWhile_cons, wordB, Bool.true_or]
    simp
theorem textF_len (r b : Str) (i : Nat) : (textF r b i).e = 0 → i + 1 ≤ (textF r b i).len ∧ (textF r b i).len ≤ i + r.length := by
  fun_induction textF r b i <;> simp_all [PR.err] <;> omega
theorem numberP_len {s : Str} (h : (numberP s).e = 0) : (numberP s).len = (s.takeWhile digitB).length := by
  unfold numberP at *
  simp only at *
  split at h
  · simp [PR.err] at h
  · rename_i h1
    rw [if_neg h1]
    split at h
    · simp [PR.err] at h
    · rfl
theorem markP_len {s : Str} (h : (markP s).e = 0) : 1 ≤ (markP s).len ∧ (markP s).len ≤ s.length := by
  unfold markP at *
  split at h
  · rename_i m hm
    have h1 := List.find?_some hm
    have h2 := List.mem_of_find?_eq_some hm
    refine ⟨?_, (List.isPrefixOf_iff_prefix.1 h1).length_le⟩
    show 1 ≤ m.length
    simp only [marksL, List.mem_cons, List.not_mem_nil, or_false] at h2
    rcases h2 with h | h | h | h | h | h | h | h | h | h | h | h | h | h | h | h <;> subst h <;> simp
  · simp [PR.err] at h
theorem oneP_len {s : Str} (hs : s ≠ []) (h : (oneP s).e = 0) : 1 ≤ (oneP s).len ∧ (oneP s).len ≤ s.length := by
  unfold oneP at *
  simp only at *
  split at h
  · rename_i h1; rw [if_pos h1]
    unfold nameP at *
    split at h
    · simp [PR.err] at h
    · rename_i h2; rw [if_neg h2]; exact ⟨wordN_pos h1 hs, wordN_le s⟩
  · rename_i h1; rw [if_neg h1]
    split at h
    · rename_i h2; rw [if_pos h2, numberP_len h]
      refine ⟨?_, takeWhile_le _⟩
      cases s with
      | nil => exact absurd rfl hs
      | cons c r => simp only [List.getD_cons_zero] at h2; simp [List.takeWhile_cons, h2]
    · rename_i h2; rw [if_neg h2]
      split at h
      · rename_i h3; rw [if_pos h3]
        have := textF_len _ _ _ h
        have h4 : 1 ≤ s.length := by cases s with | nil => exact absurd rfl hs | cons => simp
        rw [List.length_drop] at this
        omega
      · rename_i h3; rw [if_neg h3]; exact markP_len h
end Go.Proofs.YthkhdedadacakaaGreatDoor
namespace Go.Proofs.YthkhdedadacakaaGreatDoor
open Go.AM
set_option maxRecDepth 4000
theorem or32 (c : UInt8) : bitsO .or .u8 (c.toNat : Int) 32 = ((c.toNat ||| 32 : Nat) : Int) := by
  rw [bitsO_eq]
  have h : ∀ n : Fin 256, bitsK .or .u8 (n.val : Int) 32 = ((n.val ||| 32 : Nat) : Int) := by decide +kernel
  exact h ⟨c.toNat, c.toNat_lt⟩
theorem or32_letter (c : UInt8) : (decide (97 ≤ c.toNat ||| 32) && decide (c.toNat ||| 32 ≤ 122) || decide (c.toNat = 95)) = letterB c := by
  have h : ∀ n : Fin 256, (decide (97 ≤ n.val ||| 32) && decide (n.val ||| 32 ≤ 122) || decide (n.val = 95)) = ((decide (97 ≤ n.val) && decide (n.val ≤ 122)) || (decide (65 ≤ n.val) && decide (n.val ≤ 90)) || decide (n.val = 95)) := by decide +kernel
  exact h ⟨c.toNat, c.toNat_lt⟩
theorem lex_letter (c : UInt8) : CallF Tryz.prog n_lex_letter [.int .u8 c.toNat] (.bool (letterB c)) := by
  rw [← or32_letter]
  refine CallF.of_nil (of_lex_letter (by simp) ?_) rfl
  unfold b_lex_letter WpR
  intro Q hQr hQn hQp
  repeat' first | refine go_ ?_ | refine br_ (fun hw => ?_) (fun hw => ?_) <;> try omega | fail
  all_goals refine leafE ?_ rfl
  all_goals (rw [or32] at *; (refine congrArg AV.bool ?_; rw [Bool.eq_iff_iff]; simp only [or32, Bool.and_eq_true, Bool.or_eq_true, decide_eq_true_eq, beq_iff_eq, Bool.not_eq_true', decide_eq_false_iff_not, beq_eq_false_iff_ne, ne_eq, true_iff, false_iff, iff_true, iff_false, Bool.false_eq_true, Bool.true_eq_false, not_and, not_or] at *; omega))
theorem lex_digit (c : UInt8) : CallF Tryz.prog n_lex_digit [.int .u8 c.toNat] (.bool (digitB c)) := by
  refine CallF.of_nil (of_lex_digit (by simp) ?_) rfl
  unfold b_lex_digit WpR
  intro Q hQr hQn hQp
  repeat' first | refine go_ ?_ | refine br_ (fun hw => ?_) (fun hw => ?_) <;> try omega | fail
  all_goals refine leafE ?_ rfl
  all_goals (refine congrArg AV.bool ?_; rw [Bool.eq_iff_iff]; simp only [digitB, Bool.and_eq_true, Bool.or_eq_true, decide_eq_true_eq, beq_iff_eq, Bool.not_eq_true', decide_eq_false_iff_not, beq_eq_false_iff_ne, ne_eq, true_iff, false_iff, iff_true, iff_false, Bool.false_eq_true, Bool.true_eq_false, not_and, not_or] at *; omega)
theorem takeWhile_at {p : UInt8 → Bool} {s : Str} {i : Nat} (hi : i < s.length) : ((s.drop i).takeWhile p).length = if p (s.getD i 0) then 1 + ((s.drop (i + 1)).takeWhile p).length else 0 := by
  rw [List.drop_eq_getElem_cons hi, List.takeWhile_cons, List.getD_eq_getElem?_getD, List.getElem?_eq_getElem hi]
  simp only [Option.getD_some]
  split <;> simp; omega
theorem lex_run (fn : FuncId) (cap : List AV) (hcap : AV.purL cap = true) (p : UInt8 → Bool) (h : ∀ c : UInt8, CallF Tryz.prog fn (.int .u8 c.toNat :: cap) (.bool (p c))) (s : Str) (hs : s.length ≤ 2 ^ 62) :
    CallF Tryz.prog n_lex_run [.str s, .fn (.func fn) [] cap] (I (s.takeWhile p).length) := by
  refine CallF.of_nil (of_lex_run (by simp) ?_) (by simp [AV.pur, AV.purL, hcap])
  unfold b_lex_run WpR
  intro Q hQr hQn hQp
  repeat' first | refine go_ ?_ | refine br_ (fun hw => ?_) (fun hw => ?_) <;> try omega | fail
  with_reducible refine loop_i [4, 5, 8, 9, 10, 11, 12, 13, 14, 15, 16, 17, 18] (fun i : Nat => [(8, I i)]) (fun _ => []) (fun i => i ≤ s.length ∧ (s.takeWhile p).length = i + ((s.drop i).takeWhile p).length) (fun i => s.length - i) (0) ?_ ?_ ?_ ?_
  · simp
  · rfl
  · exact at_
  · rintro i r ⟨hi, hp⟩
    repeat' first | refine go_ ?_ | refine cf_ (h _) ?_ | refine br_ (fun hw => ?_) (fun hw => ?_) <;> try omega | fail
    · rw [takeWhile_at (by omega)] at hp
      rw [hw] at hp
      exact leafE (by simp at hp; simp [hp]) rfl
    · rw [takeWhile_at (by omega)] at hp
      rw [hw] at hp
      refine ⟨i + 1, ?_, ?_, by first | rfl | (simp [go_sem]; done), ou_, at_⟩ <;> (try dsimp only)
      · simp at hp; exact ⟨by omega, by omega⟩
      · omega
    · have : i = s.length := by omega
      subst this
      exact leafE (by simp at hp; simp [hp]) rfl
theorem lex_word_1 (c : UInt8) : CallF Tryz.prog n_lex_word_1 [.int .u8 c.toNat] (.bool (wordB c)) := by
  refine CallF.of_nil (of_lex_word_1 (by simp) ?_) rfl
  unfold b_lex_word_1 WpR
  intro Q hQr hQn hQp
  repeat' first | refine go_ ?_ | refine cf_ (lex_letter _) ?_ | refine cf_ (lex_digit _) ?_ | refine br_ (fun hw => ?_) (fun hw => ?_) <;> try omega | fail
  all_goals refine leafE ?_ rfl
  all_goals simp_all [wordB]
theorem lex_word (s : Str) (hs : s.length ≤ 2 ^ 62) : CallF Tryz.prog n_lex_word [.str s] (I (wordN s)) := by
  refine CallF.of_nil (of_lex_word (by simp) ?_) rfl
  unfold b_lex_word WpR
  intro Q hQr hQn hQp
  cases s with
  | nil =>
    repeat' first | refine go_ ?_ | refine br_ (fun hw => ?_) (fun hw => ?_) <;> try omega | fail
    all_goals (refine leafE ?_ ?_ <;> rfl)
  | cons c r =>
    repeat' first | refine go_ ?_ | refine cf_ (lex_letter _) ?_ | refine cf_ (lex_run _ _ rfl wordB lex_word_1 _ hs) ?_ | refine br_ (fun hw => ?_) (fun hw => ?_) <;> try omega | fail
    all_goals refine leafE ?_ rfl
    all_goals simp_all [wordN]
theorem lex_name (s : Str) (hs : s.length ≤ 2 ^ 62) : CallF Tryz.prog n_lex_name [.str s] (ePR (nameP s)) := by
  refine CallF.of_nil (of_lex_name (by simp) ?_) rfl
  unfold b_lex_name WpR
  intro Q hQr hQn hQp
  have := wordN_le s
  repeat' first | refine go_ ?_ | refine cf_ (lex_word _ hs) ?_ | refine br_ (fun hw => ?_) (fun hw => ?_) <;> try omega | fail
  all_goals refine leafNE ?_ rfl
  all_goals (unfold nameP; split <;> first | omega | rfl)
theorem takeWhile_getD {p : UInt8 → Bool} {s : Str} {i : Nat} (hi : i < (s.takeWhile p).length) : s.getD i 0 = (s.takeWhile p).getD i 0 ∧ p (s.getD i 0) = true := by
  induction s generalizing i with
  | nil => simp at hi
  | cons c r ih =>
    simp only [List.takeWhile_cons] at hi ⊢
    split at hi
    · rename_i hc
      simp only [hc, if_true]
      cases i with
      | zero => simp [hc]
      | succ i => simpa using ih (by simpa using hi)
    · simp at hi
theorem lex_number (s : Str) (hs : s.length ≤ 2 ^ 62) : CallF Tryz.prog n_lex_number [.str s] (ePR (numberP s)) := by
  refine CallF.of_nil (of_lex_number (by simp) ?_) rfl
  unfold b_lex_number WpR
  intro Q hQr hQn hQp
  have hle := takeWhile_le (p := digitB) s
  obtain ⟨n, hn⟩ : ∃ n, (s.takeWhile digitB).length = n := ⟨_, rfl⟩
  have hrun : CallF Tryz.prog n_lex_run [.str s, .fn (.func n_lex_digit) [] []] (I n) := hn ▸ lex_run _ [] rfl digitB lex_digit _ hs
  have hd : ∀ i, i < n → 48 ≤ (s.getD i 0).toNat ∧ (s.getD i 0).toNat ≤ 57 ∧ (s.takeWhile digitB).drop i = s.getD i 0 :: (s.takeWhile digitB).drop (i + 1) := fun i hi => by
    obtain ⟨h1, h2⟩ := takeWhile_getD (s := s) (p := digitB) (i := i) (by omega)
    simp only [digitB, Bool.and_eq_true, decide_eq_true_eq] at h2
    refine ⟨h2.1, h2.2, ?_⟩
    rw [List.drop_eq_getElem_cons (by omega : i < (s.takeWhile digitB).length), h1, List.getD_eq_getElem?_getD, List.getElem?_eq_getElem (by omega : i < (s.takeWhile digitB).length)]
    rfl
  repeat' first | refine go_ ?_ | refine cf_ hrun ?_ | refine br_ (fun hw => ?_) (fun hw => ?_) <;> try omega | fail
  · refine leafNE ?_ rfl
    unfold numberP; rw [hn]; simp only
    rw [if_pos (by constructor <;> omega)]; rfl
  all_goals (
    have hno : ¬ (1 < n ∧ (s.getD 0 0).toNat = 48) := by omega
    with_reducible refine loop_i [3, 5, 6, 7, 19, 20, 21, 22, 23, 24, 25, 26, 27, 28, 29, 30, 31, 32, 33, 34, 35, 36, 37] (fun p : Nat × Int => [(19, I p.1), (5, I p.2)]) (fun _ => [.cells [I 0, .str [], I 0, I 0, I 0]]) (fun p => p.1 ≤ n ∧ 0 ≤ p.2 ∧ p.2 ≤ 9223372036854775807 ∧ numF (s.takeWhile digitB) 0 = numF ((s.takeWhile digitB).drop p.1) p.2) (fun p => n - p.1) (0, 0) ?_ ?_ ?_ ?_
    · simp
    · rfl
    · exact at_
    · rintro ⟨i, v⟩ r ⟨hi, hv, hv2, hf⟩
      simp only at hi hv hv2 hf
      by_cases hin : i < n
      · obtain ⟨d1, d2, d3⟩ := hd i hin
        rw [d3] at hf
        simp only [numF] at hf
        repeat' first | refine go_ ?_ | refine br_ (fun hw => ?_) (fun hw => ?_) <;> try omega | fail
        · rw [if_pos hw] at hf
          refine leafNE ?_ rfl
          unfold numberP; rw [hn]; simp only
          rw [if_neg hno, hf]; rfl
        · rw [if_neg (by omega)] at hf
          refine ⟨(i + 1, v * 10 + (((s.getD i 0).toNat : Int) - 48)), ?_, ?_, by first | rfl | (simp [go_sem]; done), ou_, at_⟩ <;> (try dsimp only)
          · exact ⟨by omega, by omega, by omega, hf⟩
          · omega
      · have : i = n := by omega
        subst this
        rw [List.drop_of_length_le (by omega)] at hf
        repeat' first | refine go_ ?_ | refine br_ (fun hw => ?_) (fun hw => ?_) <;> try omega | fail
        · refine leafNE ?_ rfl
          unfold numberP; rw [hn]; simp only
          rw [if_neg hno, hf]; rfl)
theorem drop_at0 {l : Str} {i : Nat} (h : i < l.length) : l.drop i = l.getD i 0 :: l.drop (i + 1) := by
  rw [List.drop_eq_getElem_cons h, List.getD_eq_getElem?_getD, List.getElem?_eq_getElem h]; rfl
abbrev eBytes (s : Str) : List AV := s.map fun b => AV.int .u8 b.toNat
theorem lex_text (s : Str) (h0 : s ≠ []) (hs : s.length ≤ 2 ^ 30) : CallF Tryz.prog n_lex_text [.str s] (ePR (textF (s.drop 1) [] 1)) := by
  refine CallF.of_nil (of_lex_text (by simp) ?_) rfl
  unfold b_lex_text WpR
  intro Q hQr hQn hQp
  have hl : 1 ≤ s.length := by cases s with | nil => exact absurd rfl h0 | cons => simp
  generalize hT : textF (s.drop 1) [] 1 = T at *
  repeat' first | refine go_ ?_ | refine br_ (fun hw => ?_) (fun hw => ?_) <;> try omega | fail
  with_reducible refine loop_i [3, 4, 5, 6, 7, 8, 9, 10, 11, 12, 13, 14, 15, 16, 17, 18, 19, 20, 21, 22, 23, 24, 25, 26, 27, 28, 29, 30, 31, 32, 33, 34, 35, 36, 37, 38, 39, 40, 41, 42, 43, 44, 45, 46, 47, 48, 49, 50, 51, 52, 53, 54, 55, 56, 57, 58, 59, 60, 61, 62, 63, 64, 65, 66, 67, 68, 69] (fun p : Nat × Str => [(5, I p.1), (4, .own E1 1 p.2.length 0 p.2.length)]) (fun p => [.cells [I 0, .str [], I 0, I 0, I 0], .vec E1 (eBytes p.2)]) (fun p => 1 ≤ p.1 ∧ p.1 ≤ s.length ∧ p.2.length ≤ p.1 ∧ T = textF (s.drop p.1) p.2 p.1) (fun p => s.length - p.1) ((1, [])) ?_ ?_ ?_ ?_
  · exact ⟨Nat.le_refl _, hl, by simp, hT.symm⟩
  · rfl
  · exact at_
  · rintro ⟨i, b⟩ r ⟨hi1, hi, hb, hf⟩
    simp only at hi1 hi hb hf
    by_cases hin : i < s.length
    · rw [drop_at0 hin] at hf
      repeat' first | refine go_ ?_ | refine br_ (fun hw => ?_) (fun hw => ?_) <;> try omega | fail
      · refine leafNE ?_ rfl; rw [hf, textF_cons, if_pos (by omega), if_pos (by omega)]; rfl
      · refine leafNE ?_ rfl; rw [hf, textF_cons, if_pos (by omega), if_neg (by omega)]; simp
      · refine leafNE ?_ rfl; rw [hf, textF_cons, if_neg (by omega), if_pos (by omega), drop_at0 (by omega)]
        simp only
        rw [if_neg (by omega)]; rfl
      · rw [textF_cons, if_neg (by omega), if_pos (by omega), drop_at0 (by omega)] at hf
        try dsimp only at hf
        rw [if_pos (by omega)] at hf
        refine ⟨(i + 2, b ++ [s.getD (i + 1) 0]), ?_, ?_, by first | rfl | (simp [go_sem]; done), ou_, at_⟩ <;> (try dsimp only)
        · simp only [List.length_append, List.length_cons, List.length_nil]; exact ⟨by omega, by omega, by omega, hf⟩
        · omega
      · rw [textF_cons, if_neg (by omega), if_pos (by omega), drop_at0 (by omega)] at hf
        try dsimp only at hf
        rw [if_pos (by omega)] at hf
        refine ⟨(i + 2, b ++ [s.getD (i + 1) 0]), ?_, ?_, by first | rfl | (simp [go_sem]; done), ou_, at_⟩ <;> (try dsimp only)
        · simp only [List.length_append, List.length_cons, List.length_nil]; exact ⟨by omega, by omega, by omega, hf⟩
        · omega
      · refine leafNE ?_ rfl; rw [hf, textF_cons, if_neg (by omega), if_pos (by omega), List.drop_of_length_le (by omega)]
        rfl
      · refine leafNE ?_ rfl; rw [hf, textF_cons, if_neg (by omega), if_neg (by omega), if_neg (by simp only [printB, Bool.and_eq_true, decide_eq_true_eq]; omega)]; rfl
      · rw [textF_cons, if_neg (by omega), if_neg (by omega), if_pos (by simp only [printB, Bool.and_eq_true, decide_eq_true_eq]; omega)] at hf
        refine ⟨(i + 1, b ++ [s.getD i 0]), ?_, ?_, by first | rfl | (simp [go_sem]; done), ou_, at_⟩ <;> (try dsimp only)
        · simp only [List.length_append, List.length_cons, List.length_nil]; exact ⟨by omega, by omega, by omega, hf⟩
        · omega
      · refine leafNE ?_ rfl; rw [hf, textF_cons, if_neg (by omega), if_neg (by omega), if_neg (by simp only [printB, Bool.and_eq_true, decide_eq_true_eq]; omega)]; rfl
    · rw [List.drop_of_length_le (by omega)] at hf
      repeat' first | refine go_ ?_ | refine br_ (fun hw => ?_) (fun hw => ?_) <;> try omega | fail
      all_goals (refine leafNE ?_ rfl; rw [hf]; simp [textF, PR.err])
theorem internal_HasPrefix (s p : Str) : CallF Tryz.prog n_internal_stringslite_HasPrefix [.str s, .str p] (.bool (p.isPrefixOf s)) := by
  refine CallF.of_nil (of_internal_stringslite_HasPrefix (by simp) ?_) rfl
  unfold b_internal_stringslite_HasPrefix WpR
  intro Q hQr hQn hQp
  repeat' first | refine go_ ?_ | refine br_ (fun hw => ?_) (fun hw => ?_) <;> try omega | fail
  all_goals refine leafE ?_ rfl
  all_goals refine congrArg AV.bool ?_
  · rw [Bool.eq_iff_iff, beq_iff_eq, List.isPrefixOf_iff_prefix, List.prefix_iff_eq_take]; exact eq_comm
  · symm; rw [Bool.eq_false_iff]; intro h
    have := (List.isPrefixOf_iff_prefix.1 h).length_le
    omega
theorem strings_HasPrefix (s p : Str) : CallF Tryz.prog n_strings_HasPrefix [.str s, .str p] (.bool (p.isPrefixOf s)) := by
  refine CallF.of_nil (of_strings_HasPrefix (by simp) ?_) rfl
  unfold b_strings_HasPrefix WpR
  intro Q hQr hQn hQp
  repeat' first | refine go_ ?_ | refine cf_ (internal_HasPrefix _ _) ?_ | refine br_ (fun hw => ?_) (fun hw => ?_) <;> try omega | fail
  all_goals exact leafE rfl rfl
theorem lex_marks : CallF Tryz.prog n_lex_marks [] (eStrs marksL) := by
  refine CallF.of_nil (of_lex_marks (by simp) ?_) rfl
  unfold b_lex_marks WpR
  intro Q hQr hQn hQp
  repeat' first | refine go_ ?_ | refine br_ (fun hw => ?_) (fun hw => ?_) <;> try omega | fail
  all_goals exact leaf1 (View.weak _ _ _ (by simp [AV.pur, AV.purL]))
def idxF {α : Type} (p : α → Bool) (l : List α) : Int := match l.findIdx? p with
  | some i => i
  | none => -1
theorem idxF_none {α : Type} [Inhabited α] {p : α → Bool} {l : List α} (h : ∀ k, k < l.length → p (l.getD k default) = false) : idxF p l = -1 := by
  have : l.findIdx? p = none := by
    rw [List.findIdx?_eq_none_iff]
    intro x hx
    obtain ⟨k, hk, rfl⟩ := List.getElem_of_mem hx
    have := h k hk
    rwa [List.getD_eq_getElem?_getD, List.getElem?_eq_getElem hk] at this
  simp [idxF, this]
theorem idxF_at {α : Type} [Inhabited α] {p : α → Bool} {l : List α} {i : Nat} (hi : i < l.length) (h : ∀ k, k < i → p (l.getD k default) = false) (hp : p (l.getD i default) = true) : idxF p l = i := by
  have : l.findIdx? p = some i := by
    rw [List.findIdx?_eq_some_iff_getElem]
    refine ⟨hi, ?_, fun j hj => ?_⟩
    · rwa [List.getD_eq_getElem?_getD, List.getElem?_eq_getElem hi] at hp
    · have := h j hj
      rw [List.getD_eq_getElem?_getD, List.getElem?_eq_getElem (by omega)] at this
      simpa using this
  simp [idxF, this]
theorem slices_IndexFunc_string (fn : FuncId) (cap : List AV) (hcap : AV.purL cap = true) (p : Str → Bool) (l : List Str) (h : ∀ x ∈ l, CallF Tryz.prog fn (.str x :: cap) (.bool (p x))) (hl : l.length ≤ 2 ^ 62) :
    CallF Tryz.prog n_slices_IndexFunc_string [eStrs l, .fn (.func fn) [] cap] (I (idxF p l)) := by
  refine CallF.of_nil (of_slices_IndexFunc_string (by simp) ?_) (by simp [AV.pur, AV.purL, hcap, pur_eStrs])
  unfold b_slices_IndexFunc_string WpR
  intro Q hQr hQn hQp
  repeat' first | refine go_ ?_ | refine br_ (fun hw => ?_) (fun hw => ?_) <;> try omega | fail
  with_reducible refine loop_i [4, 5, 8, 9, 10, 11, 12, 13, 14, 15, 16, 17, 18] (fun i : Nat => [(8, I i)]) (fun _ => []) (fun i => i ≤ l.length ∧ ∀ k, k < i → p (l.getD k default) = false) (fun i => l.length - i) (0) ?_ ?_ ?_ ?_
  · simp
  · rfl
  · exact at_
  · rintro i r ⟨hi, hp⟩
    by_cases hin : i < l.length
    · have hx := h _ (getD_mem hin)
      repeat' first | refine go_ ?_ | refine cf_ hx ?_ | refine br_ (fun hw => ?_) (fun hw => ?_) <;> try omega | fail
      · refine leafE ?_ rfl
        refine congrArg I ?_
        exact (idxF_at hin hp hw).symm
      · refine ⟨i + 1, ?_, ?_, by first | rfl | (simp [go_sem]; done), ou_, at_⟩ <;> (try dsimp only)
        · refine ⟨by omega, fun k hk => ?_⟩
          by_cases hk2 : k < i
          · exact hp k hk2
          · have : k = i := by omega
            subst this; exact hw
        · omega
    · repeat' first | refine go_ ?_ | refine br_ (fun hw => ?_) (fun hw => ?_) <;> try omega | fail
      refine leafE ?_ rfl
      refine congrArg I ?_
      exact (idxF_none fun k hk => hp k (by omega)).symm
theorem find_idx {α : Type} [Inhabited α] (p : α → Bool) : ∀ l : List α, (idxF p l = -1 ∧ l.find? p = none) ∨ ∃ i : Nat, i < l.length ∧ idxF p l = i ∧ l.find? p = some (l.getD i default)
  | [] => .inl ⟨rfl, rfl⟩
  | x :: l => by
    by_cases hp : p x = true
    · exact .inr ⟨0, by simp, by simp [idxF, List.findIdx?_cons, hp], by simp [hp]⟩
    · rcases find_idx p l with ⟨h1, h2⟩ | ⟨i, h1, h2, h3⟩
      · left
        simp only [idxF] at h1
        refine ⟨?_, by simp [hp, h2]⟩
        cases h : l.findIdx? p with
        | none => simp [idxF, List.findIdx?_cons, hp, h]
        | some k => rw [h] at h1; simp at h1
      · right
        refine ⟨i + 1, by simp; omega, ?_, by simp [hp, h3]⟩
        simp only [idxF] at h2
        cases h : l.findIdx? p with
        | none => rw [h] at h2; simp at h2
        | some k => rw [h] at h2; simp at h2; simp [idxF, List.findIdx?_cons, hp, h]; omega
theorem lex_mark_1 (m s : Str) : CallF Tryz.prog n_lex_mark_1 [.str m, .eref E1 (.str s) 0] (.bool (m.isPrefixOf s)) := by
  refine CallF.of_nil (of_lex_mark_1 (by simp) ?_) rfl
  unfold b_lex_mark_1 WpR
  intro Q hQr hQn hQp
  repeat' first | refine go_ ?_ | refine cf_ (strings_HasPrefix _ _) ?_ | refine br_ (fun hw => ?_) (fun hw => ?_) <;> try omega | fail
  all_goals exact leafE rfl rfl
theorem lex_mark (s : Str) : CallF Tryz.prog n_lex_mark [.str s] (ePR (markP s)) := by
  have hc := slices_IndexFunc_string n_lex_mark_1 [.eref E1 (.str s) 0] rfl (fun m => m.isPrefixOf s) marksL (fun m _ => lex_mark_1 m s) (by decide)
  unfold markP
  rcases find_idx (fun m : Str => m.isPrefixOf s) marksL with ⟨h1, h2⟩ | ⟨i, hi, h1, h2⟩
  · rw [h1] at hc
    rw [h2]
    refine CallF.of_nil (of_lex_mark (by simp) ?_) rfl
    unfold b_lex_mark WpR
    intro Q hQr hQn hQp
    repeat' first | refine go_ ?_ | refine cf_ lex_marks ?_ | refine cv_ hc ?_ | refine br_ (fun hw => ?_) (fun hw => ?_) <;> try omega | fail
    all_goals (refine leafNE ?_ rfl; rfl)
  · rw [h1] at hc
    rw [h2]
    have hi2 : i < 16 := hi
    have hl : (marksL.map eStr).length = 16 := rfl
    refine CallF.of_nil (of_lex_mark (by simp) ?_) rfl
    unfold b_lex_mark WpR
    intro Q hQr hQn hQp
    repeat' first | refine go_ ?_ | refine cf_ lex_marks ?_ | refine cv_ hc ?_ | refine br_ (fun hw => ?_) (fun hw => ?_) <;> try omega | fail
    all_goals (refine leafNE ?_ rfl; rfl)
theorem lex_next (s : Str) (h0 : s ≠ []) (hs : s.length ≤ 2 ^ 30) : CallF Tryz.prog n_lex_next [.str s] (ePR (oneP s)) := by
  refine CallF.of_nil (of_lex_next (by simp) ?_) rfl
  unfold b_lex_next WpR
  intro Q hQr hQn hQp
  have hl : 1 ≤ s.length := by cases s with | nil => exact absurd rfl h0 | cons => simp
  repeat' first | refine go_ ?_ | refine cf_ (lex_letter _) ?_ | refine cf_ (lex_digit _) ?_ | with_reducible refine callL_f (lex_name _ (by omega)) ?_ | with_reducible refine callD_f (lex_name _ (by omega)) ?_ | with_reducible refine callL_f (lex_number _ (by omega)) ?_ | with_reducible refine callD_f (lex_number _ (by omega)) ?_ | refine cf_ (lex_text _ h0 hs) ?_ | refine cf_ (lex_mark _) ?_ | refine br_ (fun hw => ?_) (fun hw => ?_) <;> try omega | fail
  all_goals refine leafNE ?_ rfl
  all_goals (unfold oneP; dsimp only; first
    | (rw [if_pos (by assumption)] <;> rfl)
    | (rw [if_neg (ne_true_of_eq_false (by assumption)), if_pos (by assumption)] <;> rfl)
    | (rw [if_neg (ne_true_of_eq_false (by assumption)), if_neg (ne_true_of_eq_false (by assumption)), if_pos (by omega)] <;> rfl)
    | (rw [if_neg (ne_true_of_eq_false (by assumption)), if_neg (ne_true_of_eq_false (by assumption)), if_neg (by omega)] <;> rfl))
theorem lex_reserved (s : Str) : CallF Tryz.prog n_lex_reserved [.str s] (.bool (reservedS s)) := by
  refine CallF.of_nil (of_lex_reserved (by simp) ?_) rfl
  unfold b_lex_reserved WpR
  intro Q hQr hQn hQp
  repeat' first | refine go_ ?_ | refine br_ (fun hw => ?_) (fun hw => ?_) <;> try omega | fail
  all_goals refine leafE ?_ rfl
  all_goals (refine congrArg AV.bool ?_; simp_all [reservedS, reservedL])
theorem lex_Name (s : Str) (hs : s.length ≤ 2 ^ 62) : CallF Tryz.prog n_lex_Name [.str s] (.bool (nameS s)) := by
  refine CallF.of_nil (of_lex_Name (by simp) ?_) rfl
  unfold b_lex_Name WpR
  intro Q hQr hQn hQp
  repeat' first | refine go_ ?_ | refine cf_ (lex_word _ hs) ?_ | refine cf_ (lex_reserved _) ?_ | refine br_ (fun hw => ?_) (fun hw => ?_) <;> try omega | fail
  all_goals refine leafE ?_ rfl
  all_goals (refine congrArg AV.bool ?_; simp [nameS]; try simp_all; try omega)
def eLex (p : List Tok × Int × Int) : AV := .tup [eToks p.1, I p.2.1, I p.2.2]
attribute [go_sem] eLex
theorem lexF_nil (f pos : Nat) (acc : List Tok) : lexF f [] pos acc = (acc, 0, 0) := by cases f <;> rfl
theorem lexF_cons (f pos : Nat) (acc : List Tok) (c : UInt8) (r : Str) : lexF (f + 1) (c :: r) pos acc =
    if c.toNat = 32 then lexF f r (pos + 1) acc
    else if (oneP (c :: r)).e = 0 then lexF f ((c :: r).drop (oneP (c :: r)).len) (pos + (oneP (c :: r)).len) (acc ++ [⟨(oneP (c :: r)).kind, (oneP (c :: r)).s, (oneP (c :: r)).n, pos⟩])
    else ([], pos, (oneP (c :: r)).e) := rfl
theorem lex_Lex (s : Str) (hs : s.length ≤ 2 ^ 30) : CallF Tryz.prog n_lex_Lex [.str s] (eLex (lexS s)) := by
  unfold lexS
  by_cases hbig : 200 < s.length
  · rw [if_pos hbig]
    refine CallF.of_nil (of_lex_Lex (by simp) ?_) rfl
    unfold b_lex_Lex WpR
    intro Q hQr hQn hQp
    repeat' first | refine go_ ?_ | refine br_ (fun hw => ?_) (fun hw => ?_) <;> try omega | fail
    refine leafN ?_
    exact vw_
  rw [if_neg hbig]
  generalize hT : lexF (s.length + 1) s 0 [] = T
  refine CallF.of_nil (of_lex_Lex (by simp) ?_) rfl
  unfold b_lex_Lex WpR
  intro Q hQr hQn hQp
  repeat' first | refine go_ ?_ | refine br_ (fun hw => ?_) (fun hw => ?_) <;> try omega | fail
  with_reducible refine loop_i [2, 3, 4, 5, 6, 7, 8, 12, 13, 14, 15, 16, 17, 18, 19, 20, 21, 22, 23, 24, 25, 26, 27, 28, 29, 30, 31, 32, 33, 34, 35, 36, 37, 38, 39, 40, 41, 42, 43, 44, 45, 46, 47, 48, 49, 50] (fun p : Nat × List Tok × List AObj => [(6, I p.1), (5, .own ET 0 p.2.1.length 0 p.2.1.length)]) (fun p => .vec ET (p.2.1.map eTok) :: p.2.2) (fun p => p.1 ≤ s.length ∧ p.2.1.length ≤ p.1 ∧ ∃ f, s.length - p.1 < f ∧ T = lexF f (s.drop p.1) p.1 p.2.1) (fun p => s.length - p.1) (0, [], []) ?_ ?_ ?_ ?_
  · exact ⟨by simp, by simp, s.length + 1, by omega, hT.symm⟩
  · rfl
  · exact at_
  rintro ⟨pos, acc, τ⟩ r ⟨h1, h2, f, h3, h4⟩
  dsimp only at h1 h2 h3 h4
  repeat' first | refine go_ ?_ | refine br_ (fun hw => ?_) (fun hw => ?_) <;> try omega | fail
  with_reducible refine loop_i [6, 12, 13, 14, 15, 16, 17, 18, 19, 20, 21, 22, 23] (fun p : Nat => [(6, I p)]) (fun _ => .vec ET (acc.map eTok) :: τ) (fun p => pos ≤ p ∧ p ≤ s.length ∧ ∃ f, s.length - p < f ∧ T = lexF f (s.drop p) p acc) (fun p => s.length - p) pos ?_ ?_ ?_ ?_
  · exact ⟨Nat.le_refl _, h1, f, h3, h4⟩
  · rfl
  · exact at_
  clear h3 h4
  clear f
  rintro p r2 ⟨k0, k1, f, k2, k3⟩
  obtain ⟨f, rfl⟩ : ∃ g, f = g + 1 := ⟨f - 1, by omega⟩
  by_cases hp : p < s.length
  · rw [drop_at0 hp, lexF_cons] at k3
    have hne : s.drop p ≠ [] := by rw [drop_at0 hp]; simp
    have hlen : (s.drop p).length ≤ 2 ^ 30 := by rw [List.length_drop]; omega
    rw [← drop_at0 hp] at k3
    have hnx := lex_next (s.drop p) hne hlen
    have hol := oneP_len hne
    rw [List.length_drop] at hol
    generalize oneP (s.drop p) = q at *
    obtain ⟨qk, qs, qn, ql, qe⟩ := q
    dsimp only at k3 hol
    repeat' first | refine go_ ?_ | refine cf_ hnx ?_ | refine br_ (fun hw => ?_) (fun hw => ?_) <;> try omega | fail
    · rw [if_pos (by omega)] at k3
      refine ⟨p + 1, ?_, ?_, by first | rfl | (simp [go_sem]; done), ou_, at_⟩ <;> (try dsimp only)
      · exact ⟨by omega, by omega, f, by omega, k3⟩
      · omega
    · rw [if_neg (by omega), if_neg hw] at k3
      refine leafN ?_
      rw [k3]
      exact ViewL.cons (View.nils _) (ViewL.refl rfl)
    · rw [if_neg (by omega), if_pos hw, List.drop_drop] at k3
      refine ⟨(p + ql, acc ++ [⟨qk, qs, qn, p⟩], τ ++ [.cells [I qk, .str qs, I qn, I p, I ql]]), ?_, ?_, by first | rfl | (simp [go_sem]; done), ou_, at_⟩ <;> (try dsimp only)
      · exact ⟨by omega, by simp; omega, f, by omega, k3⟩
      · omega
  · rw [List.drop_of_length_le (by omega), lexF_nil] at k3
    repeat' first | refine go_ ?_ | refine br_ (fun hw => ?_) (fun hw => ?_) <;> try omega | fail
    refine leafN ?_
    rw [k3]
    exact ViewL.cons (View.vec rfl (by simp) (by simp) (purL_t _)) (ViewL.refl rfl)
end Go.Proofs.YthkhdedadacakaaGreatDoor
