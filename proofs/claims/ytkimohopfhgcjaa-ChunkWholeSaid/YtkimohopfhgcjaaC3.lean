/- Chunks: what both sides compute. -/
import Derived.Test.YtkimohopfhgcjaaC2
namespace Go.Proofs.Ytkimohopfhgcjaa
set_option linter.unnecessarySimpa false
open Go.AM
set_option linter.unusedSimpArgs false
set_option linter.unusedVariables false
set_option maxRecDepth 4000
structure Pair where
  key : Str
  value : Str
deriving DecidableEq, Inhabited
structure Edit where
  key : Str
  value : Str
  cut : Bool
  to : Str
deriving DecidableEq, Inhabited
abbrev EP : El := ⟨true, 2⟩
abbrev EE : El := ⟨true, 4⟩
def ePair (p : Pair) : AV := .agg [.str p.key, .str p.value]
def eEdit (x : Edit) : AV := .agg [.str x.key, .str x.value, .bool x.cut, .str x.to]
def ePairs (l : List Pair) : AV := .lst false EP (l.map ePair)
def eEdits (l : List Edit) : AV := .lst false EE (l.map eEdit)
attribute [go_sem] ePair eEdit ePairs eEdits
theorem pur_ePair (p : Pair) : (ePair p).pur = true := rfl
theorem pur_eEdit (p : Edit) : (eEdit p).pur = true := rfl
theorem pur_ePairs (l : List Pair) : (ePairs l).pur = true := by simp only [ePairs, AV.pur]; exact purL_map _ _ pur_ePair
theorem pur_eEdits (l : List Edit) : (eEdits l).pur = true := by simp only [eEdits, AV.pur]; exact purL_map _ _ pur_eEdit
theorem purL_p (l : List Pair) : AV.purL (l.map ePair) = true := purL_map _ _ pur_ePair
theorem purL_e (l : List Edit) : AV.purL (l.map eEdit) = true := purL_map _ _ pur_eEdit

def rightP (p : Str) : Bool := decide (1 ≤ p.length) && decide (p.length ≤ 40)
def cntI (n : Int) : Int := if n < 1 then 1 else (n + 149) / 150
def cntN (n : Nat) : Nat := if n < 1 then 1 else (n + 149) / 150
theorem cntI_nat (n : Nat) : cntI n = cntN n := by unfold cntI cntN; split <;> split <;> omega
def keyS (pf : Str) (i : Nat) : Str := pf ++ fixS i 2
def partS (s : Str) (i : Nat) : Str := (s.drop (150 * i)).take (min (150 * (i + 1)) s.length - 150 * i)
def pairsS (pf s : Str) : List Pair := (List.range (cntN s.length)).map fun i => ⟨keyS pf i, partS s i⟩
def clearS (pf : Str) : Edit × Int := if rightP pf then (⟨pf ++ [0, 0], [], true, pf ++ [255, 255]⟩, 0) else (⟨[], [], false, []⟩, 2)
def editsS (pf s : Str) : List Edit × Int :=
  if rightP pf then (if 1400 < s.length then ([], 5) else ((clearS pf).1 :: (pairsS pf s).map fun p => ⟨p.key, p.value, false, []⟩, 0)) else ([], 2)

theorem chunk_right (p : Str) (h : p.length ≤ 2 ^ 62) : CallF Try.prog n_chunk_right [.str p] (.bool (rightP p)) := by
  refine CallF.of_nil (of_chunk_right (by simp) ?_) rfl
  unfold b_chunk_right WpR
  intro Q hQr hQn hQp
  repeat' (first
    | simp (disch := omega) only [go_sem, hQr, hQn, hQp, Int.tdiv_eq_ediv_of_nonneg, Int.tmod_eq_emod_of_nonneg, wrapK_i64, wrapK_u8, wrapK_u64, x_get0, x_getS, x_set0, x_setS, x_getD0, x_getDS, x_lenC, x_lenN, x_drop0, x_dropS, x_take0, x_takeS, x_mapC, x_mapN, x_appC, x_appN, x_appE, x_rep0, x_repS, x_many0, x_manyS, x_cellsA, x_cellsI, x_cellsB, x_cellsS, x_cellsL, x_cellsN, x_cellsO, x_cellsR, x_cellsP, x_cellsF, x_nil1, x_nil2, x_nil3, x_contC, x_contN, boolbeq1, boolbeq2, getD_map, eBytes_nil, take_one, Bool.or_false, Bool.or_true, Bool.true_or, Bool.false_or, Nat.reduceAdd, Nat.reduceBEq, ↓reduceIte, beq_self_eq_true, Bool.and_true, Bool.true_and, Bool.and_false, Bool.false_and, Int.toNat_natCast, Int.toNat_natCast_add_one, Int.toNat_zero, List.length_map, List.length_append, Nat.zero_add, Bool.not_true, Bool.not_false]
    | ((with_reducible refine req_d ?_ ?_); (· (first | (simp only [ne_eq, not_false_eq_true, true_and, and_true, AV.fits, AV.scalar, AV.cells, List.all_cons, List.all_nil, Bool.and_true, Bool.true_and, List.length_cons, List.length_nil, decide_true, beq_self_eq_true, apartAll, apartA, AV.obj, roomOk]; done) | omega | (simp [ne_eq, not_false_eq_true, true_and, and_true, AV.fits, AV.scalar, AV.cells, List.all_cons, List.all_nil, Bool.and_true, Bool.true_and, List.length_cons, List.length_nil, decide_true, beq_self_eq_true, apartAll, apartA, AV.obj, roomOk]; done) | (simp [ne_eq, not_false_eq_true, true_and, and_true, AV.fits, AV.scalar, AV.cells, List.all_cons, List.all_nil, Bool.and_true, Bool.true_and, List.length_cons, List.length_nil, decide_true, beq_self_eq_true, apartAll, apartA, AV.obj, roomOk]; omega) | assumption)))
    | with_reducible refine scope_no ?_
    | ((with_reducible refine b2sO_whole _ rfl ?_ ?_ ?_); (· simp); (· simp))
    | ((with_reducible refine condA_i (fun hw => ?_) (fun hw => ?_)) <;> ((try simp only [decide_eq_true_eq, decide_eq_false_iff_not, beq_iff_eq, beq_eq_false_iff_ne, Bool.not_eq_true', Bool.not_eq_false', Bool.not_true, Bool.not_false, Int.not_lt, Int.not_le, ne_eq, Int.ofNat_lt, Int.ofNat_le, not_true_eq_false, reduceCtorEq, Int.toNat_zero] at hw) <;> (try omega)))
    | ((with_reducible refine guardK_i (fun hw => ?_) (fun hw => ?_)) <;> ((try simp only [decide_eq_true_eq, decide_eq_false_iff_not, beq_iff_eq, beq_eq_false_iff_ne, Bool.not_eq_true', Bool.not_eq_false', Bool.not_true, Bool.not_false, Int.not_lt, Int.not_le, ne_eq, Int.ofNat_lt, Int.ofNat_le, not_true_eq_false, reduceCtorEq, Int.toNat_zero] at hw) <;> (try omega))))
  all_goals refine leafE ?_ rfl
  all_goals (refine congrArg AV.bool ?_; unfold rightP; clear hQr hQn hQp; cases p <;> (rw [Bool.eq_iff_iff]; simp_all <;> omega))
theorem ref11_right (p : Str) (h : p.length ≤ 2 ^ 62) : CallF Try.prog n_ref11_right [.str p] (.bool (rightP p)) := by
  refine CallF.of_nil (of_ref11_right (by simp) ?_) rfl
  unfold b_ref11_right WpR
  intro Q hQr hQn hQp
  repeat' (first
    | simp (disch := omega) only [go_sem, hQr, hQn, hQp, Int.tdiv_eq_ediv_of_nonneg, Int.tmod_eq_emod_of_nonneg, wrapK_i64, wrapK_u8, wrapK_u64, x_get0, x_getS, x_set0, x_setS, x_getD0, x_getDS, x_lenC, x_lenN, x_drop0, x_dropS, x_take0, x_takeS, x_mapC, x_mapN, x_appC, x_appN, x_appE, x_rep0, x_repS, x_many0, x_manyS, x_cellsA, x_cellsI, x_cellsB, x_cellsS, x_cellsL, x_cellsN, x_cellsO, x_cellsR, x_cellsP, x_cellsF, x_nil1, x_nil2, x_nil3, x_contC, x_contN, boolbeq1, boolbeq2, getD_map, eBytes_nil, take_one, Bool.or_false, Bool.or_true, Bool.true_or, Bool.false_or, Nat.reduceAdd, Nat.reduceBEq, ↓reduceIte, beq_self_eq_true, Bool.and_true, Bool.true_and, Bool.and_false, Bool.false_and, Int.toNat_natCast, Int.toNat_natCast_add_one, Int.toNat_zero, List.length_map, List.length_append, Nat.zero_add, Bool.not_true, Bool.not_false]
    | ((with_reducible refine req_d ?_ ?_); (· (first | (simp only [ne_eq, not_false_eq_true, true_and, and_true, AV.fits, AV.scalar, AV.cells, List.all_cons, List.all_nil, Bool.and_true, Bool.true_and, List.length_cons, List.length_nil, decide_true, beq_self_eq_true, apartAll, apartA, AV.obj, roomOk]; done) | omega | (simp [ne_eq, not_false_eq_true, true_and, and_true, AV.fits, AV.scalar, AV.cells, List.all_cons, List.all_nil, Bool.and_true, Bool.true_and, List.length_cons, List.length_nil, decide_true, beq_self_eq_true, apartAll, apartA, AV.obj, roomOk]; done) | (simp [ne_eq, not_false_eq_true, true_and, and_true, AV.fits, AV.scalar, AV.cells, List.all_cons, List.all_nil, Bool.and_true, Bool.true_and, List.length_cons, List.length_nil, decide_true, beq_self_eq_true, apartAll, apartA, AV.obj, roomOk]; omega) | assumption)))
    | with_reducible refine scope_no ?_
    | ((with_reducible refine b2sO_whole _ rfl ?_ ?_ ?_); (· simp); (· simp))
    | ((with_reducible refine condA_i (fun hw => ?_) (fun hw => ?_)) <;> ((try simp only [decide_eq_true_eq, decide_eq_false_iff_not, beq_iff_eq, beq_eq_false_iff_ne, Bool.not_eq_true', Bool.not_eq_false', Bool.not_true, Bool.not_false, Int.not_lt, Int.not_le, ne_eq, Int.ofNat_lt, Int.ofNat_le, not_true_eq_false, reduceCtorEq, Int.toNat_zero] at hw) <;> (try omega)))
    | ((with_reducible refine guardK_i (fun hw => ?_) (fun hw => ?_)) <;> ((try simp only [decide_eq_true_eq, decide_eq_false_iff_not, beq_iff_eq, beq_eq_false_iff_ne, Bool.not_eq_true', Bool.not_eq_false', Bool.not_true, Bool.not_false, Int.not_lt, Int.not_le, ne_eq, Int.ofNat_lt, Int.ofNat_le, not_true_eq_false, reduceCtorEq, Int.toNat_zero] at hw) <;> (try omega))))
  all_goals refine leafE ?_ rfl
  all_goals (refine congrArg AV.bool ?_; rw [Bool.eq_iff_iff]; simp only [rightP, Bool.and_eq_true, Bool.or_eq_true, decide_eq_true_eq, beq_iff_eq, Bool.not_eq_true', decide_eq_false_iff_not, beq_eq_false_iff_ne, ne_eq, true_iff, false_iff, iff_true, iff_false, Bool.false_eq_true, Bool.true_eq_false, not_and, not_or] at *; omega)
theorem chunk_Count (n : Int) (h : -9223372036854775808 ≤ n) (h2 : n ≤ 4611686018427387904) : CallF Try.prog n_chunk_Count [I n] (I (cntI n)) := by
  refine CallF.of_nil (of_chunk_Count (by simp) ?_) rfl
  unfold b_chunk_Count WpR
  intro Q hQr hQn hQp
  repeat' (first
    | simp (disch := omega) only [go_sem, hQr, hQn, hQp, Int.tdiv_eq_ediv_of_nonneg, Int.tmod_eq_emod_of_nonneg, wrapK_i64, wrapK_u8, wrapK_u64, x_get0, x_getS, x_set0, x_setS, x_getD0, x_getDS, x_lenC, x_lenN, x_drop0, x_dropS, x_take0, x_takeS, x_mapC, x_mapN, x_appC, x_appN, x_appE, x_rep0, x_repS, x_many0, x_manyS, x_cellsA, x_cellsI, x_cellsB, x_cellsS, x_cellsL, x_cellsN, x_cellsO, x_cellsR, x_cellsP, x_cellsF, x_nil1, x_nil2, x_nil3, x_contC, x_contN, boolbeq1, boolbeq2, getD_map, eBytes_nil, take_one, Bool.or_false, Bool.or_true, Bool.true_or, Bool.false_or, Nat.reduceAdd, Nat.reduceBEq, ↓reduceIte, beq_self_eq_true, Bool.and_true, Bool.true_and, Bool.and_false, Bool.false_and, Int.toNat_natCast, Int.toNat_natCast_add_one, Int.toNat_zero, List.length_map, List.length_append, Nat.zero_add, Bool.not_true, Bool.not_false]
    | ((with_reducible refine req_d ?_ ?_); (· (first | (simp only [ne_eq, not_false_eq_true, true_and, and_true, AV.fits, AV.scalar, AV.cells, List.all_cons, List.all_nil, Bool.and_true, Bool.true_and, List.length_cons, List.length_nil, decide_true, beq_self_eq_true, apartAll, apartA, AV.obj, roomOk]; done) | omega | (simp [ne_eq, not_false_eq_true, true_and, and_true, AV.fits, AV.scalar, AV.cells, List.all_cons, List.all_nil, Bool.and_true, Bool.true_and, List.length_cons, List.length_nil, decide_true, beq_self_eq_true, apartAll, apartA, AV.obj, roomOk]; done) | (simp [ne_eq, not_false_eq_true, true_and, and_true, AV.fits, AV.scalar, AV.cells, List.all_cons, List.all_nil, Bool.and_true, Bool.true_and, List.length_cons, List.length_nil, decide_true, beq_self_eq_true, apartAll, apartA, AV.obj, roomOk]; omega) | assumption)))
    | with_reducible refine scope_no ?_
    | ((with_reducible refine b2sO_whole _ rfl ?_ ?_ ?_); (· simp); (· simp))
    | ((with_reducible refine condA_i (fun hw => ?_) (fun hw => ?_)) <;> ((try simp only [decide_eq_true_eq, decide_eq_false_iff_not, beq_iff_eq, beq_eq_false_iff_ne, Bool.not_eq_true', Bool.not_eq_false', Bool.not_true, Bool.not_false, Int.not_lt, Int.not_le, ne_eq, Int.ofNat_lt, Int.ofNat_le, not_true_eq_false, reduceCtorEq, Int.toNat_zero] at hw) <;> (try omega)))
    | ((with_reducible refine guardK_i (fun hw => ?_) (fun hw => ?_)) <;> ((try simp only [decide_eq_true_eq, decide_eq_false_iff_not, beq_iff_eq, beq_eq_false_iff_ne, Bool.not_eq_true', Bool.not_eq_false', Bool.not_true, Bool.not_false, Int.not_lt, Int.not_le, ne_eq, Int.ofNat_lt, Int.ofNat_le, not_true_eq_false, reduceCtorEq, Int.toNat_zero] at hw) <;> (try omega))))
  all_goals refine leafE ?_ rfl
  all_goals (refine congrArg I ?_; unfold cntI; (repeat' split) <;> omega)
theorem ref11_Count (n : Int) (h : -9223372036854775808 ≤ n) (h2 : n ≤ 4611686018427387904) : CallF Try.prog n_ref11_Count [I n] (I (cntI n)) := by
  refine CallF.of_nil (of_ref11_Count (by simp) ?_) rfl
  unfold b_ref11_Count WpR
  intro Q hQr hQn hQp
  repeat' (first
    | simp (disch := omega) only [go_sem, hQr, hQn, hQp, Int.tdiv_eq_ediv_of_nonneg, Int.tmod_eq_emod_of_nonneg, wrapK_i64, wrapK_u8, wrapK_u64, x_get0, x_getS, x_set0, x_setS, x_getD0, x_getDS, x_lenC, x_lenN, x_drop0, x_dropS, x_take0, x_takeS, x_mapC, x_mapN, x_appC, x_appN, x_appE, x_rep0, x_repS, x_many0, x_manyS, x_cellsA, x_cellsI, x_cellsB, x_cellsS, x_cellsL, x_cellsN, x_cellsO, x_cellsR, x_cellsP, x_cellsF, x_nil1, x_nil2, x_nil3, x_contC, x_contN, boolbeq1, boolbeq2, getD_map, eBytes_nil, take_one, Bool.or_false, Bool.or_true, Bool.true_or, Bool.false_or, Nat.reduceAdd, Nat.reduceBEq, ↓reduceIte, beq_self_eq_true, Bool.and_true, Bool.true_and, Bool.and_false, Bool.false_and, Int.toNat_natCast, Int.toNat_natCast_add_one, Int.toNat_zero, List.length_map, List.length_append, Nat.zero_add, Bool.not_true, Bool.not_false]
    | ((with_reducible refine req_d ?_ ?_); (· (first | (simp only [ne_eq, not_false_eq_true, true_and, and_true, AV.fits, AV.scalar, AV.cells, List.all_cons, List.all_nil, Bool.and_true, Bool.true_and, List.length_cons, List.length_nil, decide_true, beq_self_eq_true, apartAll, apartA, AV.obj, roomOk]; done) | omega | (simp [ne_eq, not_false_eq_true, true_and, and_true, AV.fits, AV.scalar, AV.cells, List.all_cons, List.all_nil, Bool.and_true, Bool.true_and, List.length_cons, List.length_nil, decide_true, beq_self_eq_true, apartAll, apartA, AV.obj, roomOk]; done) | (simp [ne_eq, not_false_eq_true, true_and, and_true, AV.fits, AV.scalar, AV.cells, List.all_cons, List.all_nil, Bool.and_true, Bool.true_and, List.length_cons, List.length_nil, decide_true, beq_self_eq_true, apartAll, apartA, AV.obj, roomOk]; omega) | assumption)))
    | with_reducible refine scope_no ?_
    | ((with_reducible refine b2sO_whole _ rfl ?_ ?_ ?_); (· simp); (· simp))
    | ((with_reducible refine condA_i (fun hw => ?_) (fun hw => ?_)) <;> ((try simp only [decide_eq_true_eq, decide_eq_false_iff_not, beq_iff_eq, beq_eq_false_iff_ne, Bool.not_eq_true', Bool.not_eq_false', Bool.not_true, Bool.not_false, Int.not_lt, Int.not_le, ne_eq, Int.ofNat_lt, Int.ofNat_le, not_true_eq_false, reduceCtorEq, Int.toNat_zero] at hw) <;> (try omega)))
    | ((with_reducible refine guardK_i (fun hw => ?_) (fun hw => ?_)) <;> ((try simp only [decide_eq_true_eq, decide_eq_false_iff_not, beq_iff_eq, beq_eq_false_iff_ne, Bool.not_eq_true', Bool.not_eq_false', Bool.not_true, Bool.not_false, Int.not_lt, Int.not_le, ne_eq, Int.ofNat_lt, Int.ofNat_le, not_true_eq_false, reduceCtorEq, Int.toNat_zero] at hw) <;> (try omega))))
  all_goals refine leafE ?_ rfl
  all_goals (refine congrArg I ?_; unfold cntI; split <;> omega)
theorem chunk_Clear (p : Str) (h : p.length ≤ 2 ^ 61) : CallF Try.prog n_chunk_Clear [.str p] (.tup [eEdit (clearS p).1, I (clearS p).2]) := by
  refine CallF.of_nil (of_chunk_Clear (by simp) ?_) rfl
  unfold b_chunk_Clear WpR
  intro Q hQr hQn hQp
  repeat' (first
    | simp (disch := omega) only [go_sem, hQr, hQn, hQp, Int.tdiv_eq_ediv_of_nonneg, Int.tmod_eq_emod_of_nonneg, wrapK_i64, wrapK_u8, wrapK_u64, x_get0, x_getS, x_set0, x_setS, x_getD0, x_getDS, x_lenC, x_lenN, x_drop0, x_dropS, x_take0, x_takeS, x_mapC, x_mapN, x_appC, x_appN, x_appE, x_rep0, x_repS, x_many0, x_manyS, x_cellsA, x_cellsI, x_cellsB, x_cellsS, x_cellsL, x_cellsN, x_cellsO, x_cellsR, x_cellsP, x_cellsF, x_nil1, x_nil2, x_nil3, x_contC, x_contN, boolbeq1, boolbeq2, getD_map, eBytes_nil, take_one, Bool.or_false, Bool.or_true, Bool.true_or, Bool.false_or, Nat.reduceAdd, Nat.reduceBEq, ↓reduceIte, beq_self_eq_true, Bool.and_true, Bool.true_and, Bool.and_false, Bool.false_and, Int.toNat_natCast, Int.toNat_natCast_add_one, Int.toNat_zero, List.length_map, List.length_append, Nat.zero_add, Bool.not_true, Bool.not_false]
    | with_reducible refine callL_f (chunk_right _ (by omega)) ?_
    | with_reducible refine callD_f (chunk_right _ (by omega)) ?_
    | ((with_reducible refine req_d ?_ ?_); (· (first | (simp only [ne_eq, not_false_eq_true, true_and, and_true, AV.fits, AV.scalar, AV.cells, List.all_cons, List.all_nil, Bool.and_true, Bool.true_and, List.length_cons, List.length_nil, decide_true, beq_self_eq_true, apartAll, apartA, AV.obj, roomOk]; done) | omega | (simp [ne_eq, not_false_eq_true, true_and, and_true, AV.fits, AV.scalar, AV.cells, List.all_cons, List.all_nil, Bool.and_true, Bool.true_and, List.length_cons, List.length_nil, decide_true, beq_self_eq_true, apartAll, apartA, AV.obj, roomOk]; done) | (simp [ne_eq, not_false_eq_true, true_and, and_true, AV.fits, AV.scalar, AV.cells, List.all_cons, List.all_nil, Bool.and_true, Bool.true_and, List.length_cons, List.length_nil, decide_true, beq_self_eq_true, apartAll, apartA, AV.obj, roomOk]; omega) | assumption)))
    | with_reducible refine scope_no ?_
    | ((with_reducible refine b2sO_whole _ rfl ?_ ?_ ?_); (· simp); (· simp))
    | ((with_reducible refine condA_i (fun hw => ?_) (fun hw => ?_)) <;> ((try simp only [decide_eq_true_eq, decide_eq_false_iff_not, beq_iff_eq, beq_eq_false_iff_ne, Bool.not_eq_true', Bool.not_eq_false', Bool.not_true, Bool.not_false, Int.not_lt, Int.not_le, ne_eq, Int.ofNat_lt, Int.ofNat_le, not_true_eq_false, reduceCtorEq, Int.toNat_zero] at hw) <;> (try omega)))
    | ((with_reducible refine guardK_i (fun hw => ?_) (fun hw => ?_)) <;> ((try simp only [decide_eq_true_eq, decide_eq_false_iff_not, beq_iff_eq, beq_eq_false_iff_ne, Bool.not_eq_true', Bool.not_eq_false', Bool.not_true, Bool.not_false, Int.not_lt, Int.not_le, ne_eq, Int.ofNat_lt, Int.ofNat_le, not_true_eq_false, reduceCtorEq, Int.toNat_zero] at hw) <;> (try omega))))
  all_goals refine leafNE ?_ rfl
  all_goals (unfold clearS; simp_all [eEdit])
theorem ref11_Clear (p : Str) (h : p.length ≤ 2 ^ 61) : CallF Try.prog n_ref11_Clear [.str p] (.tup [eEdit (clearS p).1, I (clearS p).2]) := by
  refine CallF.of_nil (of_ref11_Clear (by simp) ?_) rfl
  unfold b_ref11_Clear WpR
  intro Q hQr hQn hQp
  repeat' (first
    | simp (disch := omega) only [go_sem, hQr, hQn, hQp, Int.tdiv_eq_ediv_of_nonneg, Int.tmod_eq_emod_of_nonneg, wrapK_i64, wrapK_u8, wrapK_u64, x_get0, x_getS, x_set0, x_setS, x_getD0, x_getDS, x_lenC, x_lenN, x_drop0, x_dropS, x_take0, x_takeS, x_mapC, x_mapN, x_appC, x_appN, x_appE, x_rep0, x_repS, x_many0, x_manyS, x_cellsA, x_cellsI, x_cellsB, x_cellsS, x_cellsL, x_cellsN, x_cellsO, x_cellsR, x_cellsP, x_cellsF, x_nil1, x_nil2, x_nil3, x_contC, x_contN, boolbeq1, boolbeq2, getD_map, eBytes_nil, take_one, Bool.or_false, Bool.or_true, Bool.true_or, Bool.false_or, Nat.reduceAdd, Nat.reduceBEq, ↓reduceIte, beq_self_eq_true, Bool.and_true, Bool.true_and, Bool.and_false, Bool.false_and, Int.toNat_natCast, Int.toNat_natCast_add_one, Int.toNat_zero, List.length_map, List.length_append, Nat.zero_add, Bool.not_true, Bool.not_false]
    | with_reducible refine callL_f (ref11_right _ (by omega)) ?_
    | with_reducible refine callD_f (ref11_right _ (by omega)) ?_
    | ((with_reducible refine req_d ?_ ?_); (· (first | (simp only [ne_eq, not_false_eq_true, true_and, and_true, AV.fits, AV.scalar, AV.cells, List.all_cons, List.all_nil, Bool.and_true, Bool.true_and, List.length_cons, List.length_nil, decide_true, beq_self_eq_true, apartAll, apartA, AV.obj, roomOk]; done) | omega | (simp [ne_eq, not_false_eq_true, true_and, and_true, AV.fits, AV.scalar, AV.cells, List.all_cons, List.all_nil, Bool.and_true, Bool.true_and, List.length_cons, List.length_nil, decide_true, beq_self_eq_true, apartAll, apartA, AV.obj, roomOk]; done) | (simp [ne_eq, not_false_eq_true, true_and, and_true, AV.fits, AV.scalar, AV.cells, List.all_cons, List.all_nil, Bool.and_true, Bool.true_and, List.length_cons, List.length_nil, decide_true, beq_self_eq_true, apartAll, apartA, AV.obj, roomOk]; omega) | assumption)))
    | with_reducible refine scope_no ?_
    | ((with_reducible refine b2sO_whole _ rfl ?_ ?_ ?_); (· simp); (· simp))
    | ((with_reducible refine condA_i (fun hw => ?_) (fun hw => ?_)) <;> ((try simp only [decide_eq_true_eq, decide_eq_false_iff_not, beq_iff_eq, beq_eq_false_iff_ne, Bool.not_eq_true', Bool.not_eq_false', Bool.not_true, Bool.not_false, Int.not_lt, Int.not_le, ne_eq, Int.ofNat_lt, Int.ofNat_le, not_true_eq_false, reduceCtorEq, Int.toNat_zero] at hw) <;> (try omega)))
    | ((with_reducible refine guardK_i (fun hw => ?_) (fun hw => ?_)) <;> ((try simp only [decide_eq_true_eq, decide_eq_false_iff_not, beq_iff_eq, beq_eq_false_iff_ne, Bool.not_eq_true', Bool.not_eq_false', Bool.not_true, Bool.not_false, Int.not_lt, Int.not_le, ne_eq, Int.ofNat_lt, Int.ofNat_le, not_true_eq_false, reduceCtorEq, Int.toNat_zero] at hw) <;> (try omega))))
  all_goals refine leafNE ?_ rfl
  all_goals (unfold clearS; simp_all [eEdit])
theorem sameAt {α : Type} [DecidableEq α] [Inhabited α] {a b : List α} (hl : a.length = b.length) (h : ∀ k, k < a.length → a.getD k default = b.getD k default) : a = b := by
  apply List.ext_getElem hl
  intro i h1 h2
  have := h i h1
  rw [List.getD_eq_getElem?_getD, List.getD_eq_getElem?_getD, List.getElem?_eq_getElem h1, List.getElem?_eq_getElem h2] at this
  exact this
theorem before_succ {n : Nat} {p : Nat → Prop} (h : ∀ k, k < n → p k) (hn : p n) : ∀ k, k < n + 1 → p k := fun k hk => by
  rcases Nat.lt_or_eq_of_le (Nat.le_of_lt_succ hk) with h1 | h1
  · exact h k h1
  · exact h1 ▸ hn
theorem ref11_SameEdits (a b : List Edit) (ha : a.length ≤ 2 ^ 62) (hb : b.length ≤ 2 ^ 62) : CallF Try.prog n_ref11_SameEdits [eEdits a, eEdits b] (.bool (decide (a = b))) := by
  refine CallF.of_nil (of_ref11_SameEdits (by simp) ?_) (by simp [AV.pur, AV.purL, pur_ePair, pur_eEdit, pur_ePairs, pur_eEdits, purL_p, purL_e])
  unfold b_ref11_SameEdits WpR
  intro Q hQr hQn hQp
  repeat' (first
    | simp (disch := omega) only [go_sem, hQr, hQn, hQp, Int.tdiv_eq_ediv_of_nonneg, Int.tmod_eq_emod_of_nonneg, wrapK_i64, wrapK_u8, wrapK_u64, x_get0, x_getS, x_set0, x_setS, x_getD0, x_getDS, x_lenC, x_lenN, x_drop0, x_dropS, x_take0, x_takeS, x_mapC, x_mapN, x_appC, x_appN, x_appE, x_rep0, x_repS, x_many0, x_manyS, x_cellsA, x_cellsI, x_cellsB, x_cellsS, x_cellsL, x_cellsN, x_cellsO, x_cellsR, x_cellsP, x_cellsF, x_nil1, x_nil2, x_nil3, x_contC, x_contN, boolbeq1, boolbeq2, getD_map, eBytes_nil, take_one, Bool.or_false, Bool.or_true, Bool.true_or, Bool.false_or, Nat.reduceAdd, Nat.reduceBEq, ↓reduceIte, beq_self_eq_true, Bool.and_true, Bool.true_and, Bool.and_false, Bool.false_and, Int.toNat_natCast, Int.toNat_natCast_add_one, Int.toNat_zero, List.length_map, List.length_append, Nat.zero_add, Bool.not_true, Bool.not_false]
    | ((with_reducible refine req_d ?_ ?_); (· (first | (simp only [ne_eq, not_false_eq_true, true_and, and_true, AV.fits, AV.scalar, AV.cells, List.all_cons, List.all_nil, Bool.and_true, Bool.true_and, List.length_cons, List.length_nil, decide_true, beq_self_eq_true, apartAll, apartA, AV.obj, roomOk]; done) | omega | (simp [ne_eq, not_false_eq_true, true_and, and_true, AV.fits, AV.scalar, AV.cells, List.all_cons, List.all_nil, Bool.and_true, Bool.true_and, List.length_cons, List.length_nil, decide_true, beq_self_eq_true, apartAll, apartA, AV.obj, roomOk]; done) | (simp [ne_eq, not_false_eq_true, true_and, and_true, AV.fits, AV.scalar, AV.cells, List.all_cons, List.all_nil, Bool.and_true, Bool.true_and, List.length_cons, List.length_nil, decide_true, beq_self_eq_true, apartAll, apartA, AV.obj, roomOk]; omega) | assumption)))
    | with_reducible refine scope_no ?_
    | ((with_reducible refine b2sO_whole _ rfl ?_ ?_ ?_); (· simp); (· simp))
    | ((with_reducible refine condA_i (fun hw => ?_) (fun hw => ?_)) <;> ((try simp only [decide_eq_true_eq, decide_eq_false_iff_not, beq_iff_eq, beq_eq_false_iff_ne, Bool.not_eq_true', Bool.not_eq_false', Bool.not_true, Bool.not_false, Int.not_lt, Int.not_le, ne_eq, Int.ofNat_lt, Int.ofNat_le, not_true_eq_false, reduceCtorEq, Int.toNat_zero] at hw) <;> (try omega)))
    | ((with_reducible refine guardK_i (fun hw => ?_) (fun hw => ?_)) <;> ((try simp only [decide_eq_true_eq, decide_eq_false_iff_not, beq_iff_eq, beq_eq_false_iff_ne, Bool.not_eq_true', Bool.not_eq_false', Bool.not_true, Bool.not_false, Int.not_lt, Int.not_le, ne_eq, Int.ofNat_lt, Int.ofNat_le, not_true_eq_false, reduceCtorEq, Int.toNat_zero] at hw) <;> (try omega))))
  · refine leafE ?_ rfl
    have : a ≠ b := fun e => by subst e; omega
    rw [decide_eq_false this]
  have hl : a.length = b.length := by omega
  with_reducible refine loop_i [4, 5, 11, 12, 13, 14, 15, 16, 17, 18, 19, 20, 21, 22, 23, 24, 25] (fun i : Nat => [(5, I i)]) (fun _ => []) (fun i => i ≤ a.length ∧ ∀ k, k < i → a.getD k default = b.getD k default) (fun i => a.length - i) (0) ?_ ?_ ?_ ?_
  · simp
  · rfl
  · simp (disch := omega) only [at_nil, at_cons, and_true, go_sem, hQr, hQn, hQp, Int.tdiv_eq_ediv_of_nonneg, Int.tmod_eq_emod_of_nonneg, wrapK_i64, wrapK_u8, wrapK_u64, x_get0, x_getS, x_set0, x_setS, x_getD0, x_getDS, x_lenC, x_lenN, x_drop0, x_dropS, x_take0, x_takeS, x_mapC, x_mapN, x_appC, x_appN, x_appE, x_rep0, x_repS, x_many0, x_manyS, x_cellsA, x_cellsI, x_cellsB, x_cellsS, x_cellsL, x_cellsN, x_cellsO, x_cellsR, x_cellsP, x_cellsF, x_nil1, x_nil2, x_nil3, x_contC, x_contN, boolbeq1, boolbeq2, getD_map, eBytes_nil, take_one, Bool.or_false, Bool.or_true, Bool.true_or, Bool.false_or, Nat.reduceAdd, Nat.reduceBEq, ↓reduceIte, beq_self_eq_true, Bool.and_true, Bool.true_and, Bool.and_false, Bool.false_and, Int.toNat_natCast, Int.toNat_natCast_add_one, Int.toNat_zero, List.length_map, List.length_append, Nat.zero_add, Bool.not_true, Bool.not_false, Int.natCast_add, Int.cast_ofNat_Int] <;> (try trivial) <;> (try omega) <;> (try (repeat (first | trivial | (refine And.intro ?_ ?_) | (congr 1; omega))))
  rintro i r ⟨h1, h2⟩
  by_cases hi : i < a.length
  · repeat' (first
      | simp (disch := omega) only [go_sem, hQr, hQn, hQp, Int.tdiv_eq_ediv_of_nonneg, Int.tmod_eq_emod_of_nonneg, wrapK_i64, wrapK_u8, wrapK_u64, x_get0, x_getS, x_set0, x_setS, x_getD0, x_getDS, x_lenC, x_lenN, x_drop0, x_dropS, x_take0, x_takeS, x_mapC, x_mapN, x_appC, x_appN, x_appE, x_rep0, x_repS, x_many0, x_manyS, x_cellsA, x_cellsI, x_cellsB, x_cellsS, x_cellsL, x_cellsN, x_cellsO, x_cellsR, x_cellsP, x_cellsF, x_nil1, x_nil2, x_nil3, x_contC, x_contN, boolbeq1, boolbeq2, getD_map, eBytes_nil, take_one, Bool.or_false, Bool.or_true, Bool.true_or, Bool.false_or, Nat.reduceAdd, Nat.reduceBEq, ↓reduceIte, beq_self_eq_true, Bool.and_true, Bool.true_and, Bool.and_false, Bool.false_and, Int.toNat_natCast, Int.toNat_natCast_add_one, Int.toNat_zero, List.length_map, List.length_append, Nat.zero_add, Bool.not_true, Bool.not_false]
      | ((with_reducible refine req_d ?_ ?_); (· (first | (simp only [ne_eq, not_false_eq_true, true_and, and_true, AV.fits, AV.scalar, AV.cells, List.all_cons, List.all_nil, Bool.and_true, Bool.true_and, List.length_cons, List.length_nil, decide_true, beq_self_eq_true, apartAll, apartA, AV.obj, roomOk]; done) | omega | (simp [ne_eq, not_false_eq_true, true_and, and_true, AV.fits, AV.scalar, AV.cells, List.all_cons, List.all_nil, Bool.and_true, Bool.true_and, List.length_cons, List.length_nil, decide_true, beq_self_eq_true, apartAll, apartA, AV.obj, roomOk]; done) | (simp [ne_eq, not_false_eq_true, true_and, and_true, AV.fits, AV.scalar, AV.cells, List.all_cons, List.all_nil, Bool.and_true, Bool.true_and, List.length_cons, List.length_nil, decide_true, beq_self_eq_true, apartAll, apartA, AV.obj, roomOk]; omega) | assumption)))
      | with_reducible refine scope_no ?_
      | ((with_reducible refine b2sO_whole _ rfl ?_ ?_ ?_); (· simp); (· simp))
      | ((with_reducible refine condA_i (fun hw => ?_) (fun hw => ?_)) <;> ((try simp only [decide_eq_true_eq, decide_eq_false_iff_not, beq_iff_eq, beq_eq_false_iff_ne, Bool.not_eq_true', Bool.not_eq_false', Bool.not_true, Bool.not_false, Int.not_lt, Int.not_le, ne_eq, Int.ofNat_lt, Int.ofNat_le, not_true_eq_false, reduceCtorEq, Int.toNat_zero] at hw) <;> (try omega)))
      | ((with_reducible refine guardK_i (fun hw => ?_) (fun hw => ?_)) <;> ((try simp only [decide_eq_true_eq, decide_eq_false_iff_not, beq_iff_eq, beq_eq_false_iff_ne, Bool.not_eq_true', Bool.not_eq_false', Bool.not_true, Bool.not_false, Int.not_lt, Int.not_le, ne_eq, Int.ofNat_lt, Int.ofNat_le, not_true_eq_false, reduceCtorEq, Int.toNat_zero] at hw) <;> (try omega))))
    · refine leafE ?_ rfl
      have : a ≠ b := fun e => by subst e; simp_all
      rw [decide_eq_false this]
    · refine ⟨i + 1, ?_, ?_, by first | rfl | (simp [go_sem]; done), (by repeat (first | exact out_ovl _ _ _ | refine out_upd rfl ?_ | refine out_ovl2 rfl ?_ | (simp only [puts_cons, puts_nil]))), (by simp (disch := omega) only [at_nil, at_cons, and_true, go_sem, hQr, hQn, hQp, Int.tdiv_eq_ediv_of_nonneg, Int.tmod_eq_emod_of_nonneg, wrapK_i64, wrapK_u8, wrapK_u64, x_get0, x_getS, x_set0, x_setS, x_getD0, x_getDS, x_lenC, x_lenN, x_drop0, x_dropS, x_take0, x_takeS, x_mapC, x_mapN, x_appC, x_appN, x_appE, x_rep0, x_repS, x_many0, x_manyS, x_cellsA, x_cellsI, x_cellsB, x_cellsS, x_cellsL, x_cellsN, x_cellsO, x_cellsR, x_cellsP, x_cellsF, x_nil1, x_nil2, x_nil3, x_contC, x_contN, boolbeq1, boolbeq2, getD_map, eBytes_nil, take_one, Bool.or_false, Bool.or_true, Bool.true_or, Bool.false_or, Nat.reduceAdd, Nat.reduceBEq, ↓reduceIte, beq_self_eq_true, Bool.and_true, Bool.true_and, Bool.and_false, Bool.false_and, Int.toNat_natCast, Int.toNat_natCast_add_one, Int.toNat_zero, List.length_map, List.length_append, Nat.zero_add, Bool.not_true, Bool.not_false, Int.natCast_add, Int.cast_ofNat_Int] <;> (try trivial) <;> (try omega) <;> (try (repeat (first | trivial | (refine And.intro ?_ ?_) | (congr 1; omega)))))⟩ <;> (try dsimp only)
      · refine ⟨by omega, before_succ h2 ?_⟩
        have e1 : ∀ x y : Edit, x.key = y.key → x.value = y.value → x.cut = y.cut → x.to = y.to → x = y := fun x y h1 h2 h3 h4 => by cases x; cases y; simp_all
        exact e1 _ _ (by simp_all) (by simp_all) (by simp_all) (by simp_all)
      · omega
  · repeat' (first
      | simp (disch := omega) only [go_sem, hQr, hQn, hQp, Int.tdiv_eq_ediv_of_nonneg, Int.tmod_eq_emod_of_nonneg, wrapK_i64, wrapK_u8, wrapK_u64, x_get0, x_getS, x_set0, x_setS, x_getD0, x_getDS, x_lenC, x_lenN, x_drop0, x_dropS, x_take0, x_takeS, x_mapC, x_mapN, x_appC, x_appN, x_appE, x_rep0, x_repS, x_many0, x_manyS, x_cellsA, x_cellsI, x_cellsB, x_cellsS, x_cellsL, x_cellsN, x_cellsO, x_cellsR, x_cellsP, x_cellsF, x_nil1, x_nil2, x_nil3, x_contC, x_contN, boolbeq1, boolbeq2, getD_map, eBytes_nil, take_one, Bool.or_false, Bool.or_true, Bool.true_or, Bool.false_or, Nat.reduceAdd, Nat.reduceBEq, ↓reduceIte, beq_self_eq_true, Bool.and_true, Bool.true_and, Bool.and_false, Bool.false_and, Int.toNat_natCast, Int.toNat_natCast_add_one, Int.toNat_zero, List.length_map, List.length_append, Nat.zero_add, Bool.not_true, Bool.not_false]
      | ((with_reducible refine req_d ?_ ?_); (· (first | (simp only [ne_eq, not_false_eq_true, true_and, and_true, AV.fits, AV.scalar, AV.cells, List.all_cons, List.all_nil, Bool.and_true, Bool.true_and, List.length_cons, List.length_nil, decide_true, beq_self_eq_true, apartAll, apartA, AV.obj, roomOk]; done) | omega | (simp [ne_eq, not_false_eq_true, true_and, and_true, AV.fits, AV.scalar, AV.cells, List.all_cons, List.all_nil, Bool.and_true, Bool.true_and, List.length_cons, List.length_nil, decide_true, beq_self_eq_true, apartAll, apartA, AV.obj, roomOk]; done) | (simp [ne_eq, not_false_eq_true, true_and, and_true, AV.fits, AV.scalar, AV.cells, List.all_cons, List.all_nil, Bool.and_true, Bool.true_and, List.length_cons, List.length_nil, decide_true, beq_self_eq_true, apartAll, apartA, AV.obj, roomOk]; omega) | assumption)))
      | with_reducible refine scope_no ?_
      | ((with_reducible refine b2sO_whole _ rfl ?_ ?_ ?_); (· simp); (· simp))
      | ((with_reducible refine condA_i (fun hw => ?_) (fun hw => ?_)) <;> ((try simp only [decide_eq_true_eq, decide_eq_false_iff_not, beq_iff_eq, beq_eq_false_iff_ne, Bool.not_eq_true', Bool.not_eq_false', Bool.not_true, Bool.not_false, Int.not_lt, Int.not_le, ne_eq, Int.ofNat_lt, Int.ofNat_le, not_true_eq_false, reduceCtorEq, Int.toNat_zero] at hw) <;> (try omega)))
      | ((with_reducible refine guardK_i (fun hw => ?_) (fun hw => ?_)) <;> ((try simp only [decide_eq_true_eq, decide_eq_false_iff_not, beq_iff_eq, beq_eq_false_iff_ne, Bool.not_eq_true', Bool.not_eq_false', Bool.not_true, Bool.not_false, Int.not_lt, Int.not_le, ne_eq, Int.ofNat_lt, Int.ofNat_le, not_true_eq_false, reduceCtorEq, Int.toNat_zero] at hw) <;> (try omega))))
    refine leafE ?_ rfl
    rw [decide_eq_true (sameAt hl (fun k hk => h2 k (by omega)))]
theorem chunk_chunks (pf s : Str) : CallF Try.prog n_chunk_chunks [.str pf, .str s] (.fn (.func n_chunk_chunks_1) [] [.eref E1 (.str s) 0, .eref E1 (.str pf) 0]) := by
  refine CallF.of_nil (of_chunk_chunks (by simp) ?_) rfl
  unfold b_chunk_chunks WpR
  intro Q hQr hQn hQp
  repeat' (first
    | simp (disch := omega) only [go_sem, hQr, hQn, hQp, Int.tdiv_eq_ediv_of_nonneg, Int.tmod_eq_emod_of_nonneg, wrapK_i64, wrapK_u8, wrapK_u64, x_get0, x_getS, x_set0, x_setS, x_getD0, x_getDS, x_lenC, x_lenN, x_drop0, x_dropS, x_take0, x_takeS, x_mapC, x_mapN, x_appC, x_appN, x_appE, x_rep0, x_repS, x_many0, x_manyS, x_cellsA, x_cellsI, x_cellsB, x_cellsS, x_cellsL, x_cellsN, x_cellsO, x_cellsR, x_cellsP, x_cellsF, x_nil1, x_nil2, x_nil3, x_contC, x_contN, boolbeq1, boolbeq2, getD_map, eBytes_nil, take_one, Bool.or_false, Bool.or_true, Bool.true_or, Bool.false_or, Nat.reduceAdd, Nat.reduceBEq, ↓reduceIte, beq_self_eq_true, Bool.and_true, Bool.true_and, Bool.and_false, Bool.false_and, Int.toNat_natCast, Int.toNat_natCast_add_one, Int.toNat_zero, List.length_map, List.length_append, Nat.zero_add, Bool.not_true, Bool.not_false]
    | ((with_reducible refine req_d ?_ ?_); (· (first | (simp only [ne_eq, not_false_eq_true, true_and, and_true, AV.fits, AV.scalar, AV.cells, List.all_cons, List.all_nil, Bool.and_true, Bool.true_and, List.length_cons, List.length_nil, decide_true, beq_self_eq_true, apartAll, apartA, AV.obj, roomOk]; done) | omega | (simp [ne_eq, not_false_eq_true, true_and, and_true, AV.fits, AV.scalar, AV.cells, List.all_cons, List.all_nil, Bool.and_true, Bool.true_and, List.length_cons, List.length_nil, decide_true, beq_self_eq_true, apartAll, apartA, AV.obj, roomOk]; done) | (simp [ne_eq, not_false_eq_true, true_and, and_true, AV.fits, AV.scalar, AV.cells, List.all_cons, List.all_nil, Bool.and_true, Bool.true_and, List.length_cons, List.length_nil, decide_true, beq_self_eq_true, apartAll, apartA, AV.obj, roomOk]; omega) | assumption)))
    | with_reducible refine scope_no ?_
    | ((with_reducible refine b2sO_whole _ rfl ?_ ?_ ?_); (· simp); (· simp))
    | ((with_reducible refine condA_i (fun hw => ?_) (fun hw => ?_)) <;> ((try simp only [decide_eq_true_eq, decide_eq_false_iff_not, beq_iff_eq, beq_eq_false_iff_ne, Bool.not_eq_true', Bool.not_eq_false', Bool.not_true, Bool.not_false, Int.not_lt, Int.not_le, ne_eq, Int.ofNat_lt, Int.ofNat_le, not_true_eq_false, reduceCtorEq, Int.toNat_zero] at hw) <;> (try omega)))
    | ((with_reducible refine guardK_i (fun hw => ?_) (fun hw => ?_)) <;> ((try simp only [decide_eq_true_eq, decide_eq_false_iff_not, beq_iff_eq, beq_eq_false_iff_ne, Bool.not_eq_true', Bool.not_eq_false', Bool.not_true, Bool.not_false, Int.not_lt, Int.not_le, ne_eq, Int.ofNat_lt, Int.ofNat_le, not_true_eq_false, reduceCtorEq, Int.toNat_zero] at hw) <;> (try omega))))
  all_goals (refine leaf1 ?_; first | exact ViewL.refl (by simp [AV.pur, AV.purL, pur_ePair, pur_eEdit, pur_ePairs, pur_eEdits, purL_p, purL_e]) | (repeat (first | exact ViewL.nil _ | refine ViewL.cons ?_ ?_ | exact View.nils _ | exact View.refl _ (by simp [AV.pur, AV.purL, pur_ePair, pur_eEdit, pur_ePairs, pur_eEdits, purL_p, purL_e]) | exact View.weak _ _ _ (by simp [AV.pur, AV.purL, pur_ePair, pur_eEdit, pur_ePairs, pur_eEdits, purL_p, purL_e]) | exact View.cell _ _ rfl rfl (by simp [AV.pur, AV.purL, pur_ePair, pur_eEdit, pur_ePairs, pur_eEdits, purL_p, purL_e]) | refine View.fnL ?_ ?_ | exact View.vec rfl (by simp) (by simp) (by simp [AV.pur, AV.purL, pur_ePair, pur_eEdit, pur_ePairs, pur_eEdits, purL_p, purL_e]))))
/-- The chunks, one by one: what the loop's body does with them. -/
theorem chunk_chunks_1 (l : Nat) (pf s : Str) (hs : s.length ≤ 2 ^ 50) (hp : pf.length ≤ 2 ^ 50) (J : Nat → Store → Prop) (Jx : Store → Prop) (σ : Store) (h0 : J 0 σ)
    (hy : ∀ i σ, i < cntN s.length → J i σ → YieldA Try.prog l [.str (keyS pf i), .str (partS s i)] σ fun o σ' => (o = .ret (.bool true) ∧ J (i + 1) σ') ∨ (o = .ret (.bool false) ∧ Jx σ')) :
    CallA Try.prog n_chunk_chunks_1 [.yld l, .eref E1 (.str s) 0, .eref E1 (.str pf) 0] σ fun o σ' => o = .ret (.tup []) ∧ (J (cntN s.length) σ' ∨ Jx σ') := by
  refine of_chunk_chunks_1 (by simp) ?_
  unfold b_chunk_chunks_1 WpR
  intro Q hQr hQn hQp
  have hcc := chunk_Count s.length (by omega) (by omega)
  rw [cntI_nat] at hcc
  have hcn : cntN s.length ≤ 2 ^ 50 := by unfold cntN; split <;> omega
  have hcm : ∀ i, i < cntN s.length → 150 * i ≤ s.length := fun i hi => by unfold cntN at hi; split at hi <;> omega
  generalize hc : cntN s.length = c at *
  repeat' (first
    | simp (disch := omega) only [go_sem, hQr, hQn, hQp, Int.tdiv_eq_ediv_of_nonneg, Int.tmod_eq_emod_of_nonneg, wrapK_i64, wrapK_u8, wrapK_u64, x_get0, x_getS, x_set0, x_setS, x_getD0, x_getDS, x_lenC, x_lenN, x_drop0, x_dropS, x_take0, x_takeS, x_mapC, x_mapN, x_appC, x_appN, x_appE, x_rep0, x_repS, x_many0, x_manyS, x_cellsA, x_cellsI, x_cellsB, x_cellsS, x_cellsL, x_cellsN, x_cellsO, x_cellsR, x_cellsP, x_cellsF, x_nil1, x_nil2, x_nil3, x_contC, x_contN, boolbeq1, boolbeq2, getD_map, eBytes_nil, take_one, Bool.or_false, Bool.or_true, Bool.true_or, Bool.false_or, Nat.reduceAdd, Nat.reduceBEq, ↓reduceIte, beq_self_eq_true, Bool.and_true, Bool.true_and, Bool.and_false, Bool.false_and, Int.toNat_natCast, Int.toNat_natCast_add_one, Int.toNat_zero, List.length_map, List.length_append, Nat.zero_add, Bool.not_true, Bool.not_false]
    | with_reducible refine callL_f (hcc) ?_
    | with_reducible refine callD_f (hcc) ?_
    | ((with_reducible refine req_d ?_ ?_); (· (first | (simp only [ne_eq, not_false_eq_true, true_and, and_true, AV.fits, AV.scalar, AV.cells, List.all_cons, List.all_nil, Bool.and_true, Bool.true_and, List.length_cons, List.length_nil, decide_true, beq_self_eq_true, apartAll, apartA, AV.obj, roomOk]; done) | omega | (simp [ne_eq, not_false_eq_true, true_and, and_true, AV.fits, AV.scalar, AV.cells, List.all_cons, List.all_nil, Bool.and_true, Bool.true_and, List.length_cons, List.length_nil, decide_true, beq_self_eq_true, apartAll, apartA, AV.obj, roomOk]; done) | (simp [ne_eq, not_false_eq_true, true_and, and_true, AV.fits, AV.scalar, AV.cells, List.all_cons, List.all_nil, Bool.and_true, Bool.true_and, List.length_cons, List.length_nil, decide_true, beq_self_eq_true, apartAll, apartA, AV.obj, roomOk]; omega) | assumption)))
    | with_reducible refine scope_no ?_
    | ((with_reducible refine b2sO_whole _ rfl ?_ ?_ ?_); (· simp); (· simp))
    | ((with_reducible refine condA_i (fun hw => ?_) (fun hw => ?_)) <;> ((try simp only [decide_eq_true_eq, decide_eq_false_iff_not, beq_iff_eq, beq_eq_false_iff_ne, Bool.not_eq_true', Bool.not_eq_false', Bool.not_true, Bool.not_false, Int.not_lt, Int.not_le, ne_eq, Int.ofNat_lt, Int.ofNat_le, not_true_eq_false, reduceCtorEq, Int.toNat_zero] at hw) <;> (try omega)))
    | ((with_reducible refine guardK_i (fun hw => ?_) (fun hw => ?_)) <;> ((try simp only [decide_eq_true_eq, decide_eq_false_iff_not, beq_iff_eq, beq_eq_false_iff_ne, Bool.not_eq_true', Bool.not_eq_false', Bool.not_true, Bool.not_false, Int.not_lt, Int.not_le, ne_eq, Int.ofNat_lt, Int.ofNat_le, not_true_eq_false, reduceCtorEq, Int.toNat_zero] at hw) <;> (try omega))))
  with_reducible refine loop_i [4, 5, 9, 10, 11, 12, 13, 14, 15, 16, 17, 18, 19, 20, 21, 22, 23, 24, 25, 26, 27, 28, 29, 30] (fun p : Nat × Store => [(9, I p.1)]) (fun p => p.2) (fun p => p.1 ≤ c ∧ J p.1 p.2) (fun p => c - p.1) ((0, σ)) ?_ ?_ ?_ ?_
  · exact ⟨Nat.zero_le _, h0⟩
  · rfl
  · simp (disch := omega) only [at_nil, at_cons, and_true, go_sem, hQr, hQn, hQp, Int.tdiv_eq_ediv_of_nonneg, Int.tmod_eq_emod_of_nonneg, wrapK_i64, wrapK_u8, wrapK_u64, x_get0, x_getS, x_set0, x_setS, x_getD0, x_getDS, x_lenC, x_lenN, x_drop0, x_dropS, x_take0, x_takeS, x_mapC, x_mapN, x_appC, x_appN, x_appE, x_rep0, x_repS, x_many0, x_manyS, x_cellsA, x_cellsI, x_cellsB, x_cellsS, x_cellsL, x_cellsN, x_cellsO, x_cellsR, x_cellsP, x_cellsF, x_nil1, x_nil2, x_nil3, x_contC, x_contN, boolbeq1, boolbeq2, getD_map, eBytes_nil, take_one, Bool.or_false, Bool.or_true, Bool.true_or, Bool.false_or, Nat.reduceAdd, Nat.reduceBEq, ↓reduceIte, beq_self_eq_true, Bool.and_true, Bool.true_and, Bool.and_false, Bool.false_and, Int.toNat_natCast, Int.toNat_natCast_add_one, Int.toNat_zero, List.length_map, List.length_append, Nat.zero_add, Bool.not_true, Bool.not_false, Int.natCast_add, Int.cast_ofNat_Int] <;> (try trivial) <;> (try omega) <;> (try (repeat (first | trivial | (refine And.intro ?_ ?_) | (congr 1; omega))))
  rintro ⟨i, τ⟩ r ⟨h1, h2⟩
  dsimp only at h1 h2
  by_cases hi : i < c
  · have hm := hcm i hi
    have hyi := hy i τ hi h2
    have hfx := octet_Fixed i 2 (by omega) (by omega) (by omega) (by omega)
    have hfl : (fixS i 2).length = 2 := fixN_len _ _
    have ha : (if ((s.length : Nat) : Int) < 150 * ((i : Int) + 1) then ((s.length : Nat) : Int) else 150 * ((i : Int) + 1)).toNat = min (150 * (i + 1)) s.length := by split <;> omega
    have hb : (150 * (i : Int)).toNat = 150 * i := by omega
    repeat' (first
      | simp (disch := omega) only [go_sem, hQr, hQn, hQp, Int.tdiv_eq_ediv_of_nonneg, Int.tmod_eq_emod_of_nonneg, wrapK_i64, wrapK_u8, wrapK_u64, x_get0, x_getS, x_set0, x_setS, x_getD0, x_getDS, x_lenC, x_lenN, x_drop0, x_dropS, x_take0, x_takeS, x_mapC, x_mapN, x_appC, x_appN, x_appE, x_rep0, x_repS, x_many0, x_manyS, x_cellsA, x_cellsI, x_cellsB, x_cellsS, x_cellsL, x_cellsN, x_cellsO, x_cellsR, x_cellsP, x_cellsF, x_nil1, x_nil2, x_nil3, x_contC, x_contN, boolbeq1, boolbeq2, getD_map, eBytes_nil, take_one, Bool.or_false, Bool.or_true, Bool.true_or, Bool.false_or, Nat.reduceAdd, Nat.reduceBEq, ↓reduceIte, beq_self_eq_true, Bool.and_true, Bool.true_and, Bool.and_false, Bool.false_and, Int.toNat_natCast, Int.toNat_natCast_add_one, Int.toNat_zero, List.length_map, List.length_append, Nat.zero_add, Bool.not_true, Bool.not_false, hfl, ha, hb]
      | with_reducible refine callL_f (hfx) ?_
      | with_reducible refine callD_f (hfx) ?_
      | refine callT_yld hyi ?_
      | ((with_reducible refine req_d ?_ ?_); (· (first | (simp only [ne_eq, not_false_eq_true, true_and, and_true, AV.fits, AV.scalar, AV.cells, List.all_cons, List.all_nil, Bool.and_true, Bool.true_and, List.length_cons, List.length_nil, decide_true, beq_self_eq_true, apartAll, apartA, AV.obj, roomOk]; done) | omega | (simp [ne_eq, not_false_eq_true, true_and, and_true, AV.fits, AV.scalar, AV.cells, List.all_cons, List.all_nil, Bool.and_true, Bool.true_and, List.length_cons, List.length_nil, decide_true, beq_self_eq_true, apartAll, apartA, AV.obj, roomOk]; done) | (simp [ne_eq, not_false_eq_true, true_and, and_true, AV.fits, AV.scalar, AV.cells, List.all_cons, List.all_nil, Bool.and_true, Bool.true_and, List.length_cons, List.length_nil, decide_true, beq_self_eq_true, apartAll, apartA, AV.obj, roomOk]; omega) | assumption)))
      | with_reducible refine scope_no ?_
      | ((with_reducible refine b2sO_whole _ rfl ?_ ?_ ?_); (· simp); (· simp))
      | ((with_reducible refine condA_i (fun hw => ?_) (fun hw => ?_)) <;> ((try simp only [decide_eq_true_eq, decide_eq_false_iff_not, beq_iff_eq, beq_eq_false_iff_ne, Bool.not_eq_true', Bool.not_eq_false', Bool.not_true, Bool.not_false, Int.not_lt, Int.not_le, ne_eq, Int.ofNat_lt, Int.ofNat_le, not_true_eq_false, reduceCtorEq, Int.toNat_zero] at hw) <;> (try omega)))
      | ((with_reducible refine guardK_i (fun hw => ?_) (fun hw => ?_)) <;> ((try simp only [decide_eq_true_eq, decide_eq_false_iff_not, beq_iff_eq, beq_eq_false_iff_ne, Bool.not_eq_true', Bool.not_eq_false', Bool.not_true, Bool.not_false, Int.not_lt, Int.not_le, ne_eq, Int.ofNat_lt, Int.ofNat_le, not_true_eq_false, reduceCtorEq, Int.toNat_zero] at hw) <;> (try omega))))
    rintro o s' (⟨rfl, hJ⟩ | ⟨rfl, hJ⟩)
    · repeat' (first
        | simp (disch := omega) only [go_sem, hQr, hQn, hQp, Int.tdiv_eq_ediv_of_nonneg, Int.tmod_eq_emod_of_nonneg, wrapK_i64, wrapK_u8, wrapK_u64, x_get0, x_getS, x_set0, x_setS, x_getD0, x_getDS, x_lenC, x_lenN, x_drop0, x_dropS, x_take0, x_takeS, x_mapC, x_mapN, x_appC, x_appN, x_appE, x_rep0, x_repS, x_many0, x_manyS, x_cellsA, x_cellsI, x_cellsB, x_cellsS, x_cellsL, x_cellsN, x_cellsO, x_cellsR, x_cellsP, x_cellsF, x_nil1, x_nil2, x_nil3, x_contC, x_contN, boolbeq1, boolbeq2, getD_map, eBytes_nil, take_one, Bool.or_false, Bool.or_true, Bool.true_or, Bool.false_or, Nat.reduceAdd, Nat.reduceBEq, ↓reduceIte, beq_self_eq_true, Bool.and_true, Bool.true_and, Bool.and_false, Bool.false_and, Int.toNat_natCast, Int.toNat_natCast_add_one, Int.toNat_zero, List.length_map, List.length_append, Nat.zero_add, Bool.not_true, Bool.not_false]
        | ((with_reducible refine req_d ?_ ?_); (· (first | (simp only [ne_eq, not_false_eq_true, true_and, and_true, AV.fits, AV.scalar, AV.cells, List.all_cons, List.all_nil, Bool.and_true, Bool.true_and, List.length_cons, List.length_nil, decide_true, beq_self_eq_true, apartAll, apartA, AV.obj, roomOk]; done) | omega | (simp [ne_eq, not_false_eq_true, true_and, and_true, AV.fits, AV.scalar, AV.cells, List.all_cons, List.all_nil, Bool.and_true, Bool.true_and, List.length_cons, List.length_nil, decide_true, beq_self_eq_true, apartAll, apartA, AV.obj, roomOk]; done) | (simp [ne_eq, not_false_eq_true, true_and, and_true, AV.fits, AV.scalar, AV.cells, List.all_cons, List.all_nil, Bool.and_true, Bool.true_and, List.length_cons, List.length_nil, decide_true, beq_self_eq_true, apartAll, apartA, AV.obj, roomOk]; omega) | assumption)))
        | with_reducible refine scope_no ?_
        | ((with_reducible refine b2sO_whole _ rfl ?_ ?_ ?_); (· simp); (· simp))
        | ((with_reducible refine condA_i (fun hw => ?_) (fun hw => ?_)) <;> ((try simp only [decide_eq_true_eq, decide_eq_false_iff_not, beq_iff_eq, beq_eq_false_iff_ne, Bool.not_eq_true', Bool.not_eq_false', Bool.not_true, Bool.not_false, Int.not_lt, Int.not_le, ne_eq, Int.ofNat_lt, Int.ofNat_le, not_true_eq_false, reduceCtorEq, Int.toNat_zero] at hw) <;> (try omega)))
        | ((with_reducible refine guardK_i (fun hw => ?_) (fun hw => ?_)) <;> ((try simp only [decide_eq_true_eq, decide_eq_false_iff_not, beq_iff_eq, beq_eq_false_iff_ne, Bool.not_eq_true', Bool.not_eq_false', Bool.not_true, Bool.not_false, Int.not_lt, Int.not_le, ne_eq, Int.ofNat_lt, Int.ofNat_le, not_true_eq_false, reduceCtorEq, Int.toNat_zero] at hw) <;> (try omega))))
      refine ⟨(i + 1, s'), ?_, ?_, by first | rfl | (simp [go_sem]; done), (by repeat (first | exact out_ovl _ _ _ | refine out_upd rfl ?_ | refine out_ovl2 rfl ?_ | (simp only [puts_cons, puts_nil]))), (by simp (disch := omega) only [at_nil, at_cons, and_true, go_sem, hQr, hQn, hQp, Int.tdiv_eq_ediv_of_nonneg, Int.tmod_eq_emod_of_nonneg, wrapK_i64, wrapK_u8, wrapK_u64, x_get0, x_getS, x_set0, x_setS, x_getD0, x_getDS, x_lenC, x_lenN, x_drop0, x_dropS, x_take0, x_takeS, x_mapC, x_mapN, x_appC, x_appN, x_appE, x_rep0, x_repS, x_many0, x_manyS, x_cellsA, x_cellsI, x_cellsB, x_cellsS, x_cellsL, x_cellsN, x_cellsO, x_cellsR, x_cellsP, x_cellsF, x_nil1, x_nil2, x_nil3, x_contC, x_contN, boolbeq1, boolbeq2, getD_map, eBytes_nil, take_one, Bool.or_false, Bool.or_true, Bool.true_or, Bool.false_or, Nat.reduceAdd, Nat.reduceBEq, ↓reduceIte, beq_self_eq_true, Bool.and_true, Bool.true_and, Bool.and_false, Bool.false_and, Int.toNat_natCast, Int.toNat_natCast_add_one, Int.toNat_zero, List.length_map, List.length_append, Nat.zero_add, Bool.not_true, Bool.not_false, Int.natCast_add, Int.cast_ofNat_Int] <;> (try trivial) <;> (try omega) <;> (try (repeat (first | trivial | (refine And.intro ?_ ?_) | (congr 1; omega)))))⟩ <;> (try dsimp only)
      · exact ⟨by omega, hJ⟩
      · omega
    · repeat' (first
        | simp (disch := omega) only [go_sem, hQr, hQn, hQp, Int.tdiv_eq_ediv_of_nonneg, Int.tmod_eq_emod_of_nonneg, wrapK_i64, wrapK_u8, wrapK_u64, x_get0, x_getS, x_set0, x_setS, x_getD0, x_getDS, x_lenC, x_lenN, x_drop0, x_dropS, x_take0, x_takeS, x_mapC, x_mapN, x_appC, x_appN, x_appE, x_rep0, x_repS, x_many0, x_manyS, x_cellsA, x_cellsI, x_cellsB, x_cellsS, x_cellsL, x_cellsN, x_cellsO, x_cellsR, x_cellsP, x_cellsF, x_nil1, x_nil2, x_nil3, x_contC, x_contN, boolbeq1, boolbeq2, getD_map, eBytes_nil, take_one, Bool.or_false, Bool.or_true, Bool.true_or, Bool.false_or, Nat.reduceAdd, Nat.reduceBEq, ↓reduceIte, beq_self_eq_true, Bool.and_true, Bool.true_and, Bool.and_false, Bool.false_and, Int.toNat_natCast, Int.toNat_natCast_add_one, Int.toNat_zero, List.length_map, List.length_append, Nat.zero_add, Bool.not_true, Bool.not_false]
        | ((with_reducible refine req_d ?_ ?_); (· (first | (simp only [ne_eq, not_false_eq_true, true_and, and_true, AV.fits, AV.scalar, AV.cells, List.all_cons, List.all_nil, Bool.and_true, Bool.true_and, List.length_cons, List.length_nil, decide_true, beq_self_eq_true, apartAll, apartA, AV.obj, roomOk]; done) | omega | (simp [ne_eq, not_false_eq_true, true_and, and_true, AV.fits, AV.scalar, AV.cells, List.all_cons, List.all_nil, Bool.and_true, Bool.true_and, List.length_cons, List.length_nil, decide_true, beq_self_eq_true, apartAll, apartA, AV.obj, roomOk]; done) | (simp [ne_eq, not_false_eq_true, true_and, and_true, AV.fits, AV.scalar, AV.cells, List.all_cons, List.all_nil, Bool.and_true, Bool.true_and, List.length_cons, List.length_nil, decide_true, beq_self_eq_true, apartAll, apartA, AV.obj, roomOk]; omega) | assumption)))
        | with_reducible refine scope_no ?_
        | ((with_reducible refine b2sO_whole _ rfl ?_ ?_ ?_); (· simp); (· simp))
        | ((with_reducible refine condA_i (fun hw => ?_) (fun hw => ?_)) <;> ((try simp only [decide_eq_true_eq, decide_eq_false_iff_not, beq_iff_eq, beq_eq_false_iff_ne, Bool.not_eq_true', Bool.not_eq_false', Bool.not_true, Bool.not_false, Int.not_lt, Int.not_le, ne_eq, Int.ofNat_lt, Int.ofNat_le, not_true_eq_false, reduceCtorEq, Int.toNat_zero] at hw) <;> (try omega)))
        | ((with_reducible refine guardK_i (fun hw => ?_) (fun hw => ?_)) <;> ((try simp only [decide_eq_true_eq, decide_eq_false_iff_not, beq_iff_eq, beq_eq_false_iff_ne, Bool.not_eq_true', Bool.not_eq_false', Bool.not_true, Bool.not_false, Int.not_lt, Int.not_le, ne_eq, Int.ofNat_lt, Int.ofNat_le, not_true_eq_false, reduceCtorEq, Int.toNat_zero] at hw) <;> (try omega))))
      exact ⟨rfl, .inr hJ⟩
  · have : i = c := by omega
    subst this
    repeat' (first
      | simp (disch := omega) only [go_sem, hQr, hQn, hQp, Int.tdiv_eq_ediv_of_nonneg, Int.tmod_eq_emod_of_nonneg, wrapK_i64, wrapK_u8, wrapK_u64, x_get0, x_getS, x_set0, x_setS, x_getD0, x_getDS, x_lenC, x_lenN, x_drop0, x_dropS, x_take0, x_takeS, x_mapC, x_mapN, x_appC, x_appN, x_appE, x_rep0, x_repS, x_many0, x_manyS, x_cellsA, x_cellsI, x_cellsB, x_cellsS, x_cellsL, x_cellsN, x_cellsO, x_cellsR, x_cellsP, x_cellsF, x_nil1, x_nil2, x_nil3, x_contC, x_contN, boolbeq1, boolbeq2, getD_map, eBytes_nil, take_one, Bool.or_false, Bool.or_true, Bool.true_or, Bool.false_or, Nat.reduceAdd, Nat.reduceBEq, ↓reduceIte, beq_self_eq_true, Bool.and_true, Bool.true_and, Bool.and_false, Bool.false_and, Int.toNat_natCast, Int.toNat_natCast_add_one, Int.toNat_zero, List.length_map, List.length_append, Nat.zero_add, Bool.not_true, Bool.not_false]
      | ((with_reducible refine req_d ?_ ?_); (· (first | (simp only [ne_eq, not_false_eq_true, true_and, and_true, AV.fits, AV.scalar, AV.cells, List.all_cons, List.all_nil, Bool.and_true, Bool.true_and, List.length_cons, List.length_nil, decide_true, beq_self_eq_true, apartAll, apartA, AV.obj, roomOk]; done) | omega | (simp [ne_eq, not_false_eq_true, true_and, and_true, AV.fits, AV.scalar, AV.cells, List.all_cons, List.all_nil, Bool.and_true, Bool.true_and, List.length_cons, List.length_nil, decide_true, beq_self_eq_true, apartAll, apartA, AV.obj, roomOk]; done) | (simp [ne_eq, not_false_eq_true, true_and, and_true, AV.fits, AV.scalar, AV.cells, List.all_cons, List.all_nil, Bool.and_true, Bool.true_and, List.length_cons, List.length_nil, decide_true, beq_self_eq_true, apartAll, apartA, AV.obj, roomOk]; omega) | assumption)))
      | with_reducible refine scope_no ?_
      | ((with_reducible refine b2sO_whole _ rfl ?_ ?_ ?_); (· simp); (· simp))
      | ((with_reducible refine condA_i (fun hw => ?_) (fun hw => ?_)) <;> ((try simp only [decide_eq_true_eq, decide_eq_false_iff_not, beq_iff_eq, beq_eq_false_iff_ne, Bool.not_eq_true', Bool.not_eq_false', Bool.not_true, Bool.not_false, Int.not_lt, Int.not_le, ne_eq, Int.ofNat_lt, Int.ofNat_le, not_true_eq_false, reduceCtorEq, Int.toNat_zero] at hw) <;> (try omega)))
      | ((with_reducible refine guardK_i (fun hw => ?_) (fun hw => ?_)) <;> ((try simp only [decide_eq_true_eq, decide_eq_false_iff_not, beq_iff_eq, beq_eq_false_iff_ne, Bool.not_eq_true', Bool.not_eq_false', Bool.not_true, Bool.not_false, Int.not_lt, Int.not_le, ne_eq, Int.ofNat_lt, Int.ofNat_le, not_true_eq_false, reduceCtorEq, Int.toNat_zero] at hw) <;> (try omega))))
    exact ⟨rfl, .inl h2⟩
end Go.Proofs.Ytkimohopfhgcjaa
