/- Part of a proof: see Root. -/
import Derived.Test.YthkhdedadacakaaGreatDoorZ19
set_option linter.unnecessarySimpa false
set_option linter.unusedSimpArgs false
set_option linter.unusedVariables false
namespace Go.Proofs.YthkhdedadacakaaGreatDoor
open Go.AM
set_option maxRecDepth 4000
def nullS : Str := [110, 117, 108, 108]
def trueS : Str := [116, 114, 117, 101]
def falseS : Str := [102, 97, 108, 115, 101]
theorem ref14_first_bad (T : List Tok) (p : Nat) : CallM Tryz.prog n_ref14_reader_first 0 [] (eRd T p true) (eRd T p true) (eExpr x0) := by
  generalize hE : eExpr x0 = E
  refine CallM.of_one (of_ref14_reader_first (by simp) ?_) rfl (purL_rd _ _ _)
  unfold b_ref14_reader_first WpR
  intro Q hQr hQn hQp
  repeat' first | refine go_ ?_ | refine br_ (fun hw => ?_) (fun hw => ?_) <;> try omega | fail
  exact leafS (by rw [← hE]; exact viewX (.nils _)) (ViewL.refl (purL_rd T p true))
set_option maxHeartbeats 1000000 in
theorem ref14_first (T : List Tok) (p : Nat) (rd : Nat → Nat → RS) (hp : p ≤ T.length) (hT : T.length ≤ 2 ^ 60) (hs : ∀ q, (T.getD q default).s.length ≤ 2 ^ 62)
    (hrd : isT T p 4 [40] = true → RdC T n_ref14_reader_read rd 0 (p + 1) ∧ (rd 0 (p + 1)).p ≤ T.length) :
    CallM Tryz.prog n_ref14_reader_first 0 [] (eRd T p false) (eRd T (atomW rd T p).p (atomW rd T p).bad) (eExpr (atomW rd T p).x) := by
  by_cases hlt : p < T.length
  case neg =>
    have hno : isT T p 4 [40] = false := by
      cases h : isT T p 4 [40] with
      | false => rfl
      | true => exact absurd (isT_lt h) hlt
    have ha : atomW rd T p = ⟨x0, p, true⟩ := by
      unfold atomW
      rw [hno, getD_out (by omega)]; rfl
    rw [ha]
    dsimp only
    generalize hE : eExpr x0 = E
    refine CallM.of_one (of_ref14_reader_first (by simp) ?_) rfl (purL_rd _ _ _)
    unfold b_ref14_reader_first WpR
    intro Q hQr hQn hQp
    repeat' first | refine go_ ?_ | refine br_ (fun hw => ?_) (fun hw => ?_) <;> try omega | fail
    exact leafS (by rw [← hE]; exact viewX (.nils _)) (ViewL.refl (purL_rd T p true))
  have hsp := hs p
  have his : ∀ k s, isT T p k s = (decide ((T.getD p default).kind = k) && decide ((T.getD p default).s = s)) := fun k s => by
    unfold isT; rw [decide_eq_true hlt, Bool.true_and]
  have ci := fun k s o h => ref14_is_is T p false k s o h
  simp only [his] at hrd ci
  have ha : atomW rd T p = if (decide ((T.getD p default).kind = 4) && decide ((T.getD p default).s = [40])) = true then mustR T (rd 0 (p + 1)) 4 [41] else
    (if (T.getD p default).kind = 2 then valR ⟨1, (T.getD p default).n, []⟩ (p + 1)
    else if (T.getD p default).kind = 3 then valR ⟨2, 0, (T.getD p default).s⟩ (p + 1)
    else if (T.getD p default).kind = 1 then
      (match wordS (T.getD p default).s with
      | some v => valR v (p + 1)
      | none => if nameS (T.getD p default).s then ⟨.mk 2 v0 (T.getD p default).s [], p + 1, false⟩ else ⟨x0, p, true⟩)
    else ⟨x0, p, true⟩ : RS) := by unfold atomW; rw [his] <;> rfl
  rw [ha]
  clear ha hs his
  obtain ⟨t, ht⟩ : ∃ t, T.getD p default = t := ⟨_, rfl⟩
  rw [ht] at hrd ci hsp ⊢
  obtain ⟨tk, ts, tn, tp⟩ := t
  simp only at hrd ci hsp ⊢
  have hname := ref13_Name ts hsp
  by_cases hpar : (decide (tk = 4) && decide (ts = [40])) = true
  · rw [if_pos hpar]
    obtain ⟨hr, hb⟩ := hrd hpar
    simp only [Bool.and_eq_true, decide_eq_true_eq] at hpar
    obtain ⟨rfl, rfl⟩ := hpar
    have c1 := ci 1 nullS false (by simp)
    have c2 := ci 1 trueS false (by simp)
    have c3 := ci 1 falseS false (by simp)
    have c4 := ci 4 [40] true (by simp)
    unfold RdC at hr
    generalize rd 0 (p + 1) = r at *
    have hm := ref14_take T r.p r.bad 4 [41] (by omega)
    generalize hE : eExpr (mustR T r 4 [41]).x = E
    have hE' : eExpr r.x = E := hE
    rw [eExpr_eq] at hr hE'
    simp only [eRd, nullS, trueS, falseS, Int.natCast_add, Int.cast_ofNat_Int] at c1 c2 c3 c4 hr hm
    refine CallM.of_one (of_ref14_reader_first (by simp) ?_) rfl (purL_rd _ _ _)
    unfold b_ref14_reader_first WpR
    intro Q hQr hQn hQp
    repeat' first | simp (disch := omega) only [go_sem, hQr, hQn, hQp, wrapK_i64, wrapK_u8, wrapK_u64, Nat.reduceAdd, Nat.reduceBEq, ↓reduceIte, ht, Int.natCast_add, Int.cast_ofNat_Int] | refine go_ ?_ | refine cm_ c1 ?_ | refine cm_ c2 ?_ | refine cm_ c3 ?_ | refine cm_ c4 ?_ | refine cm_ hr ?_ | refine cm_ hm ?_ | refine br_ (fun hw => ?_) (fun hw => ?_) <;> try omega | fail
    exact leafS (by rw [← hE']; exact View.refl _ (by simp)) (ViewL.refl (purL_rd _ _ _))
  rw [if_neg hpar]
  have hpar' : (decide (tk = 4) && decide (ts = [40])) = false := by simpa using hpar
  have c4 := ci 4 [40] false hpar'
  clear hrd hpar
  by_cases h2 : tk = 2
  · rw [if_pos h2]
    generalize hE : eExpr _ = E
    refine CallM.of_one (of_ref14_reader_first (by simp) ?_) rfl (purL_rd _ _ _)
    unfold b_ref14_reader_first WpR
    intro Q hQr hQn hQp
    repeat' first | simp (disch := omega) only [go_sem, hQr, hQn, hQp, wrapK_i64, wrapK_u8, wrapK_u64, Nat.reduceAdd, Nat.reduceBEq, ↓reduceIte, ht] | refine go_ ?_ | refine br_ (fun hw => ?_) (fun hw => ?_) <;> try omega | fail
    exact leafS (by rw [← hE]; exact viewX (.nils _)) (ViewL.eqv rfl (purL_rd T (p + 1) false))
  rw [if_neg h2]
  by_cases h3 : tk = 3
  · rw [if_pos h3]
    generalize hE : eExpr _ = E
    refine CallM.of_one (of_ref14_reader_first (by simp) ?_) rfl (purL_rd _ _ _)
    unfold b_ref14_reader_first WpR
    intro Q hQr hQn hQp
    repeat' first | simp (disch := omega) only [go_sem, hQr, hQn, hQp, wrapK_i64, wrapK_u8, wrapK_u64, Nat.reduceAdd, Nat.reduceBEq, ↓reduceIte, ht] | refine go_ ?_ | refine br_ (fun hw => ?_) (fun hw => ?_) <;> try omega | fail
    exact leafS (by rw [← hE]; exact viewX (.nils _)) (ViewL.eqv rfl (purL_rd T (p + 1) false))
  rw [if_neg h3]
  by_cases h1 : tk = 1
  case neg =>
    rw [if_neg h1]
    have c1 := ci 1 nullS false (by simp [h1])
    have c2 := ci 1 trueS false (by simp [h1])
    have c3 := ci 1 falseS false (by simp [h1])
    simp only [eRd, nullS, trueS, falseS] at c1 c2 c3 c4
    generalize hE : eExpr _ = E
    refine CallM.of_one (of_ref14_reader_first (by simp) ?_) rfl (purL_rd _ _ _)
    unfold b_ref14_reader_first WpR
    intro Q hQr hQn hQp
    repeat' first | simp (disch := omega) only [go_sem, hQr, hQn, hQp, wrapK_i64, wrapK_u8, wrapK_u64, Nat.reduceAdd, Nat.reduceBEq, ↓reduceIte, ht] | refine go_ ?_ | refine cm_ c1 ?_ | refine cm_ c2 ?_ | refine cm_ c3 ?_ | refine cm_ c4 ?_ | refine br_ (fun hw => ?_) (fun hw => ?_) <;> try omega | fail
    exact leafS (by rw [← hE]; exact viewX (.nils _)) (ViewL.eqv rfl (purL_rd T p true))
  rw [if_pos h1]
  have cb : ∀ s b, decide (ts = s) = b → (decide (tk = 1) && decide (ts = s)) = b := fun s b h => by rw [decide_eq_true h1, Bool.true_and, h]
  by_cases w1 : ts = nullS
  · have hw : wordS ts = some v0 := by rw [w1]; rfl
    rw [hw]
    dsimp only
    have c1 := ci 1 nullS true (cb _ _ (decide_eq_true w1))
    simp only [eRd, nullS] at c1
    generalize hE : eExpr _ = E
    refine CallM.of_one (of_ref14_reader_first (by simp) ?_) rfl (purL_rd _ _ _)
    unfold b_ref14_reader_first WpR
    intro Q hQr hQn hQp
    repeat' first | simp (disch := omega) only [go_sem, hQr, hQn, hQp, wrapK_i64, wrapK_u8, wrapK_u64, Nat.reduceAdd, Nat.reduceBEq, ↓reduceIte, ht] | refine go_ ?_ | refine cm_ c1 ?_ | refine br_ (fun hw => ?_) (fun hw => ?_) <;> try omega | fail
    exact leafS (by rw [← hE]; exact viewX (.nils _)) (ViewL.eqv rfl (purL_rd T (p + 1) false))
  have c1 := ci 1 nullS false (cb _ _ (decide_eq_false w1))
  by_cases w2 : ts = trueS
  · have hw : wordS ts = some ⟨3, 1, []⟩ := by rw [w2]; rfl
    rw [hw]
    dsimp only
    have c2 := ci 1 trueS true (cb _ _ (decide_eq_true w2))
    simp only [eRd, nullS, trueS] at c1 c2
    generalize hE : eExpr _ = E
    refine CallM.of_one (of_ref14_reader_first (by simp) ?_) rfl (purL_rd _ _ _)
    unfold b_ref14_reader_first WpR
    intro Q hQr hQn hQp
    repeat' first | simp (disch := omega) only [go_sem, hQr, hQn, hQp, wrapK_i64, wrapK_u8, wrapK_u64, Nat.reduceAdd, Nat.reduceBEq, ↓reduceIte, ht] | refine go_ ?_ | refine cm_ c1 ?_ | refine cm_ c2 ?_ | refine br_ (fun hw => ?_) (fun hw => ?_) <;> try omega | fail
    exact leafS (by rw [← hE]; exact viewX (.nils _)) (ViewL.eqv rfl (purL_rd T (p + 1) false))
  have c2 := ci 1 trueS false (cb _ _ (decide_eq_false w2))
  by_cases w3 : ts = falseS
  · have hw : wordS ts = some ⟨3, 0, []⟩ := by rw [w3]; rfl
    rw [hw]
    dsimp only
    have c3 := ci 1 falseS true (cb _ _ (decide_eq_true w3))
    simp only [eRd, nullS, trueS, falseS] at c1 c2 c3
    generalize hE : eExpr _ = E
    refine CallM.of_one (of_ref14_reader_first (by simp) ?_) rfl (purL_rd _ _ _)
    unfold b_ref14_reader_first WpR
    intro Q hQr hQn hQp
    repeat' first | simp (disch := omega) only [go_sem, hQr, hQn, hQp, wrapK_i64, wrapK_u8, wrapK_u64, Nat.reduceAdd, Nat.reduceBEq, ↓reduceIte, ht] | refine go_ ?_ | refine cm_ c1 ?_ | refine cm_ c2 ?_ | refine cm_ c3 ?_ | refine br_ (fun hw => ?_) (fun hw => ?_) <;> try omega | fail
    exact leafS (by rw [← hE]; exact viewX (.nils _)) (ViewL.eqv rfl (purL_rd T (p + 1) false))
  have c3 := ci 1 falseS false (cb _ _ (decide_eq_false w3))
  have hw : wordS ts = none := by
    exact (if_neg w1).trans ((if_neg w3).trans (if_neg w2))
  rw [hw]
  dsimp only
  clear w1 w2 w3 hw cb ci
  simp only [eRd, nullS, trueS, falseS] at c1 c2 c3 c4
  cases hn : nameS ts with
  | true =>
    rw [hn] at hname
    simp only [if_true]
    generalize hE : eExpr _ = E
    refine CallM.of_one (of_ref14_reader_first (by simp) ?_) rfl (purL_rd _ _ _)
    unfold b_ref14_reader_first WpR
    intro Q hQr hQn hQp
    repeat' first | simp (disch := omega) only [go_sem, hQr, hQn, hQp, wrapK_i64, wrapK_u8, wrapK_u64, Nat.reduceAdd, Nat.reduceBEq, ↓reduceIte, ht] | refine go_ ?_ | refine cm_ c1 ?_ | refine cm_ c2 ?_ | refine cm_ c3 ?_ | refine cm_ c4 ?_ | refine cf_ hname ?_ | refine br_ (fun hw => ?_) (fun hw => ?_) <;> try omega | fail
    exact leafS (by rw [← hE]; exact viewX (.nils _)) (ViewL.eqv rfl (purL_rd T (p + 1) false))
  | false =>
    rw [hn] at hname
    simp only [Bool.false_eq_true, if_false]
    generalize hE : eExpr _ = E
    refine CallM.of_one (of_ref14_reader_first (by simp) ?_) rfl (purL_rd _ _ _)
    unfold b_ref14_reader_first WpR
    intro Q hQr hQn hQp
    repeat' first | simp (disch := omega) only [go_sem, hQr, hQn, hQp, wrapK_i64, wrapK_u8, wrapK_u64, Nat.reduceAdd, Nat.reduceBEq, ↓reduceIte, ht] | refine go_ ?_ | refine cm_ c1 ?_ | refine cm_ c2 ?_ | refine cm_ c3 ?_ | refine cm_ c4 ?_ | refine cf_ hname ?_ | refine br_ (fun hw => ?_) (fun hw => ?_) <;> try omega | fail
    exact leafS (by rw [← hE]; exact viewX (.nils _)) (ViewL.eqv rfl (purL_rd T p true))
theorem ref14_read_bad (T : List Tok) (lvl : Int) (p : Nat) : CallM Tryz.prog n_ref14_reader_read 0 [I lvl] (eRd T p true) (eRd T p true) (eExpr x0) := by
  have hf := ref14_first_bad T p
  generalize hE : eExpr x0 = E
  rw [eExpr_eq] at hf
  simp only [eRd] at hf
  refine CallM.of_one (of_ref14_reader_read (by simp) ?_) rfl (purL_rd _ _ _)
  unfold b_ref14_reader_read WpR
  intro Q hQr hQn hQp
  repeat' first | refine go_ ?_ | refine cm_ hf ?_ | refine br_ (fun hw => ?_) (fun hw => ?_) <;> try omega | fail
  exact leafS (by rw [← hE]; exact View.eqv (eExpr_eq _).symm (pur_eExpr _)) (ViewL.refl (purL_rd T p true))
structure Lq where
  op : Int
  vk : Int
  vn : Int
  vs : Str
  s : Str
  fl : Bool
  zs : List AV
  x : Expr
  p : Nat
  b : Bool
  f : Nat
def Lq.cs (q : Lq) : List AV := [I q.op, I q.vk, I q.vn, .str q.vs, .str q.s, .lst q.fl EX q.zs]
def Lq.seen (q : Lq) : Prop := View [] (.agg q.cs) (eExpr q.x)
theorem ref14_read_lv (T : List Tok) (hT : T.length ≤ 2 ^ 60) (f lvl p : Nat) (h1 : 1 ≤ lvl) (h5 : lvl ≤ 5) (hp : p ≤ T.length) (hf : 8 * (T.length - p) + (8 - lvl) ≤ f)
    (ih : ∀ j, j ≤ f → ∀ l q, l ≤ 7 → q ≤ T.length → 8 * (T.length - q) + (8 - l) < j → RdC T n_ref14_reader_read (fun l q => rdF T j none l q) l q) :
    CallM Tryz.prog n_ref14_reader_read 0 [I lvl] (eRd T p false) (eRd T (rdF T (f + 1) none lvl p).p (rdF T (f + 1) none lvl p).bad) (eExpr (rdF T (f + 1) none lvl p).x) := by
  have ga := (goes_rd T f none (lvl + 1) p hp).1 rfl
  have ca := ih f (Nat.le_refl _) (lvl + 1) p (by omega) hp (by omega)
  simp only [RdC] at ca
  obtain ⟨ga1, ga2, ga3⟩ := ga
  have hR : rdF T (f + 1) none lvl p = if (rdF T f none (lvl + 1) p).bad then rdF T f none (lvl + 1) p else rdF T f (some (rdF T f none (lvl + 1) p).x) lvl (rdF T f none (lvl + 1) p).p := by
    rw [rdF]
    rw [if_neg (by omega), if_neg (by omega), if_neg (by omega)]
  generalize rdF T (f + 1) none lvl p = R at *
  generalize rdF T f none (lvl + 1) p = a at *
  obtain ⟨ax, ap, ab⟩ := a
  dsimp only at *
  have e0 : ∀ σ : Store, View σ (.agg [I ax.op, I ax.v.kind, I ax.v.n, .str ax.v.s, .str ax.s, .lst false EX (ax.l.map eExpr)]) (eExpr ax) := fun σ => View.eqv (eExpr_eq _).symm (pur_eExpr _)
  have hfp : ab = true ∨ 8 * (T.length - ap) + 8 ≤ f := by
    cases ab with
    | true => exact .inl rfl
    | false => have := ga3 rfl; exact .inr (by omega)
  rw [eExpr_eq] at ca
  simp only [eRd, Int.natCast_add, Int.cast_ofNat_Int] at ca
  refine CallM.of_one (of_ref14_reader_read (by simp) ?_) rfl (purL_rd _ _ _)
  unfold b_ref14_reader_read WpR
  intro Q hQr hQn hQp
  repeat' first | refine go_ ?_ | refine cm_ ca ?_ | refine br_ (fun hw => ?_) (fun hw => ?_) <;> try omega | fail
  clear ca
  with_reducible refine loop_i [9, 83, 84, 85, 86, 87, 88, 89, 90, 91, 92, 93, 94, 95, 96, 97, 98, 99, 100, 101, 102, 103, 104, 105, 106, 107, 108, 109, 110, 111] (fun _ : Lq => []) (fun q => [.cells [.lst false ET (T.map eTok), I q.p, .bool q.b], .cells [I 0, I 0, I 0, .str [], .str [], .nils], .cells [I q.op, I q.vk, I q.vn, .str q.vs, .str q.s, .lst q.fl EX q.zs]]) (fun q => (q.seen ∧ AV.purL q.zs = true) ∧ q.p ≤ T.length ∧ q.f ≤ f ∧ (q.b = true → R = ⟨q.x, q.p, true⟩) ∧ (q.b = false → 8 * (T.length - q.p) + 8 ≤ q.f ∧ R = rdF T q.f (some q.x) lvl q.p)) (fun q => q.f) (⟨ax.op, ax.v.kind, ax.v.n, ax.v.s, ax.s, false, ax.l.map eExpr, ax, ap, ab, f⟩) ?_ ?_ ?_ ?_
  · refine ⟨⟨e0 [], purL_x _⟩, ga2, Nat.le_refl _, fun h => ?_, fun h => ?_⟩
    · dsimp only at h; subst h; exact hR
    · dsimp only at h; subst h
      refine ⟨?_, hR⟩
      rcases hfp with h | h
      · cases h
      · exact h
  · rfl
  · exact at_
  clear hR e0
  rintro ⟨xop, xvk, xvn, xvs, xs, xfl, xz, X, xp, xb, xf⟩ r0 ⟨⟨a1, a2⟩, a3, a4, a5, a6⟩
  dsimp only at a3 a4 a5 a6
  have ev : ∀ σ : Store, View σ (.agg [I xop, I xvk, I xvn, .str xvs, .str xs, .lst xfl EX xz]) (eExpr X) := fun σ => View.mono (σ := []) (fun _ _ h => by simp at h) a1
  clear a1
  cases xb with
  | true =>
    have a5 := a5 rfl
    subst a5
    dsimp only at hQr hQn hQp
    generalize eExpr X = E at *
    repeat' first | refine go_ ?_ | refine br_ (fun hw => ?_) (fun hw => ?_) <;> try omega | fail
    exact leafS (ev _) (ViewL.refl (purL_rd _ _ _))
  | false =>
    obtain ⟨a7, a8⟩ := a6 rfl
    clear a5 a6
    obtain ⟨j, rfl⟩ : ∃ j, xf = j + 1 := ⟨xf - 1, by omega⟩
    have cb := ref14_op T xp lvl
    rw [rdF] at a8
    cases hq : opB T xp false lvl with
    | none =>
      rw [hq] at a8 cb
      dsimp only at a8
      subst a8
      dsimp only at hQr hQn hQp
      simp only [opN, eRd] at cb
      generalize eExpr X = E at *
      repeat' first | refine go_ ?_ | refine cm_ cb ?_ | refine br_ (fun hw => ?_) (fun hw => ?_) <;> try omega | fail
      exact leafS (ev _) (ViewL.refl (purL_rd _ _ _))
    | some o2 =>
      rw [hq] at a8 cb
      dsimp only at a8
      obtain ⟨hp1, _, hp2, hp3⟩ := opB_lt hq
      have hop2 : o2.op ≠ 0 := by
        intro h
        simp only [binL, List.mem_cons, List.not_mem_nil, or_false] at hp2
        rcases hp2 with rfl | rfl | rfl | rfl | rfl | rfl | rfl | rfl | rfl | rfl | rfl | rfl <;> simp at h
      have cc := ih j (by omega) (lvl + 1) (xp + 1) (by omega) (by omega) (by omega)
      obtain ⟨gd1, gd2, gd3⟩ := (goes_rd T j none (lvl + 1) (xp + 1) (by omega)).1 rfl
      simp only [RdC] at cc
      simp only [opN, eRd] at cb
      generalize rdF T j none (lvl + 1) (xp + 1) = d at *
      obtain ⟨dx, dp, db⟩ := d
      dsimp only at *
      have e1 : ∀ σ : Store, View σ (.agg (cellsX o2.op [.agg [I xop, I xvk, I xvn, .str xvs, .str xs, .lst xfl EX xz], eExpr dx])) (eExpr (.mk o2.op v0 [] [X, dx])) := fun σ => viewC (viewL2 (ev _) (.refl _ (pur_eExpr _)))
      have hpz : AV.purL [.agg [I xop, I xvk, I xvn, .str xvs, .str xs, .lst xfl EX xz], eExpr dx] = true := by simp [AV.pur, AV.purL, a2, pur_eExpr]
      rw [eExpr_eq dx] at cc e1 hpz
      simp only [eRd, Int.natCast_add, Int.cast_ofNat_Int] at cc
      by_cases hl3 : lvl = 3
      · rw [if_pos (.inl hl3)] at a8
        subst a8
        dsimp only at hQr hQn hQp
        generalize hE : eExpr (.mk o2.op v0 [] [X, dx]) = E at *
        repeat' first | simp (disch := omega) only [go_sem, hQr, hQn, hQp, wrapK_i64, wrapK_u8, wrapK_u64, Nat.reduceAdd, Nat.reduceBEq, ↓reduceIte, Int.natCast_add, Int.cast_ofNat_Int] | refine go_ ?_ | refine cm_ cb ?_ | refine cm_ cc ?_ | refine br_ (fun hw => ?_) (fun hw => ?_) <;> try omega | fail
        all_goals first | exact leafS (e1 _) (ViewL.refl (purL_rd _ _ _)) | (exfalso; omega)
      · repeat' first | simp (disch := omega) only [go_sem, hQr, hQn, hQp, wrapK_i64, wrapK_u8, wrapK_u64, Nat.reduceAdd, Nat.reduceBEq, ↓reduceIte, Int.natCast_add, Int.cast_ofNat_Int] | refine go_ ?_ | refine cm_ cb ?_ | refine cm_ cc ?_ | refine br_ (fun hw => ?_) (fun hw => ?_) <;> try omega | fail
        refine ⟨⟨o2.op, 0, 0, [], [], true, [.agg [I xop, I xvk, I xvn, .str xvs, .str xs, .lst xfl EX xz], .agg [I dx.op, I dx.v.kind, I dx.v.n, .str dx.v.s, .str dx.s, .lst false EX (dx.l.map eExpr)]], .mk o2.op v0 [] [X, dx], dp, db, j⟩, ⟨⟨e1 [], hpz⟩, gd2, by dsimp only; omega, fun h => ?_, fun h => ?_⟩, by dsimp only; omega, rfl, ou_, at_⟩
        · dsimp only at h ⊢; subst h; rw [if_pos (.inr rfl)] at a8; exact a8
        · dsimp only at h ⊢; subst h; rw [if_neg (by simp [hl3])] at a8
          have := gd3 rfl
          exact ⟨by omega, a8⟩
theorem ref14_read7 (T : List Tok) (p : Nat) (rd : Nat → Nat → RS) (hp : p ≤ T.length) (hT : T.length ≤ 2 ^ 60) (hs : ∀ q, (T.getD q default).s.length ≤ 2 ^ 62)
    (hrd : isT T p 4 [40] = true → RdC T n_ref14_reader_read rd 0 (p + 1) ∧ (rd 0 (p + 1)).p ≤ T.length) :
    CallM Tryz.prog n_ref14_reader_read 0 [I 7] (eRd T p false) (eRd T (atomW rd T p).p (atomW rd T p).bad) (eExpr (atomW rd T p).x) := by
  have hf := ref14_first T p rd hp hT hs hrd
  generalize atomW rd T p = R at *
  generalize hE : eExpr R.x = E at *
  rw [← hE, eExpr_eq] at hf
  simp only [eRd] at hf
  refine CallM.of_one (of_ref14_reader_read (by simp) ?_) rfl (purL_rd _ _ _)
  unfold b_ref14_reader_read WpR
  intro Q hQr hQn hQp
  repeat' first | refine go_ ?_ | refine cm_ hf ?_ | refine br_ (fun hw => ?_) (fun hw => ?_) <;> try omega | fail
  exact leafS (by rw [← hE]; exact View.eqv (eExpr_eq _).symm (pur_eExpr _)) (ViewL.refl (purL_rd _ _ _))
theorem ref14_if (T : List Tok) (p : Nat) (rd : Nat → Nat → RS) (hi : isT T p 1 [105, 102] = true) (hT : T.length ≤ 2 ^ 60) (hgo : ∀ l q, q ≤ T.length → Goes T.length q (rd l q))
    (hrd : ∀ q, p + 1 ≤ q → q ≤ T.length → RdC T n_ref14_reader_read rd 0 q) :
    CallM Tryz.prog n_ref14_reader_read 0 [I 0] (eRd T p false) (eRd T (ifW rd T (p + 1)).p (ifW rd T (p + 1)).bad) (eExpr (ifW rd T (p + 1)).x) := by
  have hp : p + 1 ≤ T.length := isT_lt hi
  have co := ref14_is_is T p false 1 [105, 102] true hi
  have ga := goes_ifA hgo hp
  have gb := goes_ifB hgo hp
  have g0 := hgo 0 (p + 1) hp
  have g1 := goes_rdB hgo (l := 0) (b := (ifA rd T (p + 1)).bad) ga.2.1
  have c1 := hrd (p + 1) (Nat.le_refl _) hp
  have m1 := ref14_take T (rd 0 (p + 1)).p (rd 0 (p + 1)).bad 1 thenS (by have := g0.2.1; omega)
  have c2 := rdB_call (l := 0) (q := (ifA rd T (p + 1)).p) (b := (ifA rd T (p + 1)).bad) (fun _ => hrd _ ga.1 ga.2.1) (ref14_read_bad T _ _)
  have m2 := ref14_take T (rdB rd 0 (ifA rd T (p + 1)).p (ifA rd T (p + 1)).bad).p (rdB rd 0 (ifA rd T (p + 1)).p (ifA rd T (p + 1)).bad).bad 1 elseS (by have := g1.2.1; omega)
  have c3 := rdB_call (l := 0) (q := (ifB rd T (p + 1)).p) (b := (ifB rd T (p + 1)).bad) (fun _ => hrd _ (Nat.le_trans ga.1 gb.1) gb.2.1) (ref14_read_bad T _ _)
  change CallM _ _ _ _ _ (eRd T (ifA rd T (p + 1)).p (ifA rd T (p + 1)).bad) _ at m1
  change CallM _ _ _ _ _ (eRd T (ifB rd T (p + 1)).p (ifB rd T (p + 1)).bad) _ at m2
  change CallM _ _ _ _ _ (eRd T (ifC rd T (p + 1)).p (ifC rd T (p + 1)).bad) (eExpr (ifC rd T (p + 1)).x) at c3
  unfold RdC at c1
  simp only [ifW]
  have xa : (ifA rd T (p + 1)).x = (rd 0 (p + 1)).x := rfl
  have xb : (ifB rd T (p + 1)).x = (rdB rd 0 (ifA rd T (p + 1)).p (ifA rd T (p + 1)).bad).x := rfl
  rw [xa, xb]
  generalize rdB rd 0 (ifA rd T (p + 1)).p (ifA rd T (p + 1)).bad = rb at *
  generalize ifA rd T (p + 1) = ra at *
  generalize ifB rd T (p + 1) = rb2 at *
  generalize ifC rd T (p + 1) = rc at *
  generalize rd 0 (p + 1) = r1 at *
  rw [eExpr_eq] at c1 c2 c3
  simp only [eRd, thenS, elseS, Int.natCast_add, Int.cast_ofNat_Int] at co c1 m1 c2 m2 c3
  generalize hE : eExpr _ = E
  refine CallM.of_one (of_ref14_reader_read (by simp) ?_) rfl (purL_rd _ _ _)
  unfold b_ref14_reader_read WpR
  intro Q hQr hQn hQp
  repeat' first | simp (disch := omega) only [go_sem, hQr, hQn, hQp, wrapK_i64, wrapK_u8, wrapK_u64, Nat.reduceAdd, Nat.reduceBEq, ↓reduceIte, Int.natCast_add, Int.cast_ofNat_Int] | refine go_ ?_ | refine cm_ co ?_ | refine cm_ c1 ?_ | refine cm_ m1 ?_ | refine cm_ c2 ?_ | refine cm_ m2 ?_ | refine cm_ c3 ?_ | refine br_ (fun hw => ?_) (fun hw => ?_) <;> try omega | fail
  refine leafS ?_ (ViewL.refl (purL_rd _ _ _))
  rw [← hE]
  refine viewX ?_
  rw [List.map_cons, List.map_cons, List.map_cons, List.map_nil, eExpr_eq, eExpr_eq, eExpr_eq]
  refine View.weak _ _ _ ?_
  simp
theorem ref14_read (T : List Tok) (hT : T.length ≤ 2 ^ 60) (hs : ∀ q, (T.getD q default).s.length ≤ 2 ^ 62) : ∀ f, ∀ lvl p, lvl ≤ 7 → p ≤ T.length → 8 * (T.length - p) + (8 - lvl) < f → RdC T n_ref14_reader_read (fun l q => rdF T f none l q) lvl p := by
  intro f
  induction f using Nat.strongRecOn with
  | ind f ih =>
  intro lvl p hl hp hf
  obtain ⟨f, rfl⟩ : ∃ f', f = f' + 1 := ⟨f - 1, by omega⟩
  have ihf := ih f (Nat.lt_succ_self _)
  have hgo : ∀ l q, q ≤ T.length → Goes T.length q (rdF T f none l q) := fun l q hq => (goes_rd T f none l q hq).1 rfl
  simp only [RdC]
  by_cases h5 : 1 ≤ lvl ∧ lvl ≤ 5
  · exact ref14_read_lv T hT f lvl p h5.1 h5.2 hp (by omega) (fun j hj l q h1 h2 h3 => ih j (by omega) l q h1 h2 h3)
  by_cases h0 : lvl = 0
  · subst h0
    have hR : rdF T (f + 1) none 0 p = if isT T p 1 [105, 102] then ifW (fun l q => rdF T f none l q) T (p + 1) else rdF T f none 1 p := by
      rw [rdF, if_pos rfl]
    by_cases hi : isT T p 1 [105, 102] = true
    · rw [if_pos hi] at hR
      have hp1 := isT_lt hi
      rw [hR]
      exact ref14_if T p (fun l q => rdF T f none l q) hi hT hgo (fun q h1 h2 => ihf 0 q (by omega) h2 (by omega))
    · rw [if_neg hi] at hR
      have hi' : isT T p 1 [105, 102] = false := by simpa using hi
      have co := ref14_is_is T p false 1 [105, 102] false hi'
      have cr := ihf 1 p (by omega) hp (by omega)
      rw [hR]
      simp only [RdC] at cr
      generalize rdF T f none 1 p = R at *
      generalize hE : eExpr R.x = E at *
      rw [← hE, eExpr_eq] at cr
      simp only [eRd, Int.natCast_add, Int.cast_ofNat_Int] at co cr
      refine CallM.of_one (of_ref14_reader_read (by simp) ?_) rfl (purL_rd _ _ _)
      unfold b_ref14_reader_read WpR
      intro Q hQr hQn hQp
      repeat' first | simp (disch := omega) only [go_sem, hQr, hQn, hQp, wrapK_i64, wrapK_u8, wrapK_u64, Nat.reduceAdd, Nat.reduceBEq, ↓reduceIte, Int.natCast_add, Int.cast_ofNat_Int, Int.reduceAdd] | refine go_ ?_ | refine cm_ co ?_ | refine cm_ cr ?_ | refine br_ (fun hw => ?_) (fun hw => ?_) <;> try omega | fail
      exact leafS (by rw [← hE]; exact View.eqv (eExpr_eq _).symm (pur_eExpr _)) (ViewL.refl (purL_rd _ _ _))
  by_cases h6 : lvl = 6 ∧ isT T p 4 [45] = true
  · obtain ⟨rfl, hi⟩ := h6
    have hp1 := isT_lt hi
    have hR : rdF T (f + 1) none 6 p = ⟨.mk 3 v0 [] [(rdF T f none 6 (p + 1)).x], (rdF T f none 6 (p + 1)).p, (rdF T f none 6 (p + 1)).bad⟩ := by
      rw [rdF, if_neg h0, if_pos ⟨rfl, hi⟩]
    have co := ref14_is_is T p false 4 [45] true hi
    have cr := ihf 6 (p + 1) (by omega) hp1 (by omega)
    rw [hR]
    simp only [RdC] at cr
    generalize rdF T f none 6 (p + 1) = R at *
    obtain ⟨rx, rp, rb⟩ := R
    dsimp only at *
    have e1 : ∀ σ : Store, View σ (.agg (cellsX 3 [eExpr rx])) (eExpr (.mk 3 v0 [] [rx])) := fun σ => viewC (.cons (.refl _ (pur_eExpr _)) (.nil _))
    rw [eExpr_eq rx] at e1 cr
    generalize hE : eExpr (.mk 3 v0 [] [rx]) = E at *
    simp only [eRd, Int.natCast_add, Int.cast_ofNat_Int] at co cr
    refine CallM.of_one (of_ref14_reader_read (by simp) ?_) rfl (purL_rd _ _ _)
    unfold b_ref14_reader_read WpR
    intro Q hQr hQn hQp
    repeat' first | simp (disch := omega) only [go_sem, hQr, hQn, hQp, wrapK_i64, wrapK_u8, wrapK_u64, Nat.reduceAdd, Nat.reduceBEq, ↓reduceIte, Int.natCast_add, Int.cast_ofNat_Int] | refine go_ ?_ | refine cm_ co ?_ | refine cm_ cr ?_ | refine br_ (fun hw => ?_) (fun hw => ?_) <;> try omega | fail
    exact leafS (e1 _) (ViewL.refl (purL_rd _ _ _))
  have h67 : 6 ≤ lvl := by omega
  have hR : rdF T (f + 1) none lvl p = atomW (fun l q => rdF T f none l q) T p := by
    rw [rdF, if_neg h0, if_neg h6, if_pos h67]
  have ca := ref14_read7 T p (fun l q => rdF T f none l q) hp hT hs (fun h => ⟨ihf 0 (p + 1) (by omega) (isT_lt h) (by have := isT_lt h; omega), (hgo 0 (p + 1) (isT_lt h)).2.1⟩)
  rw [hR]
  by_cases hl6 : lvl = 6
  · have hno : isT T p 4 [45] = false := by
      cases hq : isT T p 4 [45] with
      | false => rfl
      | true => exact absurd ⟨hl6, hq⟩ h6
    have co := ref14_is_is T p false 4 [45] false hno
    subst hl6
    generalize atomW (fun l q => rdF T f none l q) T p = R at *
    generalize hE : eExpr R.x = E at *
    rw [← hE, eExpr_eq] at ca
    simp only [eRd, Int.natCast_add, Int.cast_ofNat_Int] at co ca
    refine CallM.of_one (of_ref14_reader_read (by simp) ?_) rfl (purL_rd _ _ _)
    unfold b_ref14_reader_read WpR
    intro Q hQr hQn hQp
    repeat' first | simp (disch := omega) only [go_sem, hQr, hQn, hQp, wrapK_i64, wrapK_u8, wrapK_u64, Nat.reduceAdd, Nat.reduceBEq, ↓reduceIte, Int.natCast_add, Int.cast_ofNat_Int, Int.reduceAdd] | refine go_ ?_ | refine cm_ co ?_ | refine cm_ ca ?_ | refine br_ (fun hw => ?_) (fun hw => ?_) <;> try omega | fail
    exact leafS (by rw [← hE]; exact View.eqv (eExpr_eq _).symm (pur_eExpr _)) (ViewL.refl (purL_rd _ _ _))
  · obtain rfl : lvl = 7 := by omega
    exact ca
theorem ref14_Read (T : List Tok) (fr lvl : Int) (hT : T.length ≤ 2 ^ 50) (hs : ∀ q, (T.getD q default).s.length ≤ 2 ^ 62) : CallF Tryz.prog n_ref14_Read [eToks T, I fr, I lvl] (eX3 (readT T fr lvl)) := by
  by_cases hg : fr < 0 ∨ (T.length : Int) < fr ∨ lvl < 0 ∨ 7 < lvl
  · have e : readT T fr lvl = (x0, 0, 2) := by unfold readT; rw [if_pos hg]
    rw [e]
    have e1 : ∀ σ : Store, View σ (.agg [I 0, I 0, I 0, .str [], .str [], .nils]) (eExpr x0) := fun σ => viewX (.nils _)
    simp only [eX3]
    generalize eExpr x0 = E at *
    refine CallF.of_nil (of_ref14_Read (by simp) ?_) (by simp)
    unfold b_ref14_Read WpR
    intro Q hQr hQn hQp
    repeat' first | refine go_ ?_ | refine br_ (fun hw => ?_) (fun hw => ?_) <;> try omega | fail
    all_goals first | exact leafN (view3 (e1 _)) | (exfalso; omega)
  · obtain ⟨p, rfl⟩ : ∃ p : Nat, fr = p := ⟨fr.toNat, by omega⟩
    obtain ⟨l, rfl⟩ : ∃ l : Nat, lvl = l := ⟨lvl.toNat, by omega⟩
    have cr := ref14_read T (by omega) hs (8 * T.length + 9) l p (by omega) (by omega) (by omega)
    have e : readT T p l = if (rdF T (8 * T.length + 9) none l p).bad then (x0, ((rdF T (8 * T.length + 9) none l p).p : Int), 11) else ((rdF T (8 * T.length + 9) none l p).x, ((rdF T (8 * T.length + 9) none l p).p : Int), 0) := by
      unfold readT; rw [if_neg hg, Int.toNat_natCast, Int.toNat_natCast]
    rw [e]
    simp only [RdC] at cr
    generalize rdF T (8 * T.length + 9) none l p = r at *
    obtain ⟨rx, rp, rb⟩ := r
    dsimp only at *
    have e1 : ∀ σ : Store, View σ (.agg [I 0, I 0, I 0, .str [], .str [], .nils]) (eExpr x0) := fun σ => viewX (.nils _)
    have e2 : ∀ σ : Store, View σ (.agg [I rx.op, I rx.v.kind, I rx.v.n, .str rx.v.s, .str rx.s, .lst false EX (rx.l.map eExpr)]) (eExpr rx) := fun σ => View.eqv (eExpr_eq _).symm (pur_eExpr _)
    rw [eExpr_eq] at cr
    simp only [eRd] at cr
    cases rb with
    | true =>
      simp only [if_true, eX3]
      generalize eExpr x0 = E at *
      refine CallF.of_nil (of_ref14_Read (by simp) ?_) (by simp)
      unfold b_ref14_Read WpR
      intro Q hQr hQn hQp
      repeat' first | refine go_ ?_ | refine cm_ cr ?_ | refine br_ (fun hw => ?_) (fun hw => ?_) <;> try omega | fail
      all_goals first | exact leafN (view3 (e1 _)) | (exfalso; omega)
    | false =>
      simp only [Bool.false_eq_true, if_false, eX3]
      generalize eExpr rx = E at *
      refine CallF.of_nil (of_ref14_Read (by simp) ?_) (by simp)
      unfold b_ref14_Read WpR
      intro Q hQr hQn hQp
      repeat' first | refine go_ ?_ | refine cm_ cr ?_ | refine br_ (fun hw => ?_) (fun hw => ?_) <;> try omega | fail
      all_goals first | exact leafN (view3 (e2 _)) | (exfalso; omega)
theorem readT_e (T : List Tok) : (readT T 0 0).2.2 = 0 ∨ (readT T 0 0).2.2 = 11 := by
  unfold readT
  rw [if_neg (by omega)]
  split
  · exact .inr rfl
  · exact .inl rfl
theorem ref14_Parse (s : Str) (hs : s.length ≤ 2 ^ 30) : CallF Tryz.prog n_ref14_Parse [.str s] (eX3 (parseS s)) := by
  have cl := ref13_Lex s hs
  obtain ⟨f1, f2⟩ := lexS_facts s
  have cr := ref14_Read (lexS s).1 0 0 (by omega) (fun q => by have := f2 q; omega)
  have hz := readT_sz (lexS s).1 0 0
  obtain ⟨hp0, hp1⟩ := readT_p (lexS s).1 0 0
  have he := readT_e (lexS s).1
  have hP : parseS s = if (lexS s).2.2 ≠ 0 then (x0, (lexS s).2.1, (lexS s).2.2)
    else if (readT (lexS s).1 0 0).2.1 < (lexS s).1.length then (x0, ((lexS s).1.getD (readT (lexS s).1 0 0).2.1.toNat default).pos, 11)
    else if (readT (lexS s).1 0 0).2.2 ≠ 0 then (x0, (s.length : Int), (readT (lexS s).1 0 0).2.2)
    else if 12 < deepS (readT (lexS s).1 0 0).1 then (x0, 0, 12)
    else ((readT (lexS s).1 0 0).1, 0, 0) := rfl
  rw [hP]
  clear hP f2
  generalize readT (lexS s).1 0 0 = r at *
  generalize lexS s = L at *
  obtain ⟨T, la, le⟩ := L
  obtain ⟨rx, rn, re⟩ := r
  dsimp only at *
  have cd := ref14_Deep rx (by omega)
  obtain ⟨n, rfl⟩ : ∃ n : Nat, rn = n := ⟨rn.toNat, by omega⟩
  have e1 : ∀ σ : Store, View σ (.agg [I 0, I 0, I 0, .str [], .str [], .nils]) (eExpr x0) := fun σ => viewX (.nils _)
  have e2 : ∀ σ : Store, View σ (.agg [I rx.op, I rx.v.kind, I rx.v.n, .str rx.v.s, .str rx.s, .lst false EX (rx.l.map eExpr)]) (eExpr rx) := fun σ => View.eqv (eExpr_eq _).symm (pur_eExpr _)
  simp only [eX3] at cr ⊢
  rw [eExpr_eq] at cr cd
  simp only [eLex, eToks] at cl cr
  by_cases h1 : le ≠ 0
  · rw [if_pos h1]
    generalize eExpr x0 = E at *
    refine CallF.of_nil (of_ref14_Parse (by simp) ?_) (by simp)
    unfold b_ref14_Parse WpR
    intro Q hQr hQn hQp
    repeat' first | refine go_ ?_ | refine cf_ cl ?_ | refine br_ (fun hw => ?_) (fun hw => ?_) <;> try omega | fail
    all_goals exact leafN (view3 (e1 _))
  rw [if_neg h1]
  by_cases h2 : (n : Int) < T.length
  · rw [if_pos h2, Int.toNat_natCast]
    generalize eExpr x0 = E at *
    have hn : n < T.length := by omega
    refine CallF.of_nil (of_ref14_Parse (by simp) ?_) (by simp)
    unfold b_ref14_Parse WpR
    intro Q hQr hQn hQp
    repeat' first | refine go_ ?_ | refine cf_ cl ?_ | refine cf_ cr ?_ | refine br_ (fun hw => ?_) (fun hw => ?_) <;> try omega | fail
    all_goals exact leafN (view3 (e1 _))
  rw [if_neg h2]
  by_cases h3 : re ≠ 0
  · rw [if_pos h3]
    obtain rfl : re = 11 := by rcases he with h | h
                               · exact absurd h h3
                               · exact h
    generalize eExpr x0 = E at *
    refine CallF.of_nil (of_ref14_Parse (by simp) ?_) (by simp)
    unfold b_ref14_Parse WpR
    intro Q hQr hQn hQp
    repeat' first | refine go_ ?_ | refine cf_ cl ?_ | refine cf_ cr ?_ | refine br_ (fun hw => ?_) (fun hw => ?_) <;> try omega | fail
    all_goals exact leafN (view3 (e1 _))
  rw [if_neg h3]
  by_cases h4 : 12 < deepS rx
  · rw [if_pos h4]
    generalize eExpr x0 = E at *
    refine CallF.of_nil (of_ref14_Parse (by simp) ?_) (by simp)
    unfold b_ref14_Parse WpR
    intro Q hQr hQn hQp
    repeat' first | refine go_ ?_ | refine cf_ cl ?_ | refine cf_ cr ?_ | refine cf_ cd ?_ | refine br_ (fun hw => ?_) (fun hw => ?_) <;> try omega | fail
    all_goals exact leafN (view3 (e1 _))
  · rw [if_neg h4]
    generalize eExpr rx = E at *
    refine CallF.of_nil (of_ref14_Parse (by simp) ?_) (by simp)
    unfold b_ref14_Parse WpR
    intro Q hQr hQn hQp
    repeat' first | refine go_ ?_ | refine cf_ cl ?_ | refine cf_ cr ?_ | refine cf_ cd ?_ | refine br_ (fun hw => ?_) (fun hw => ?_) <;> try omega | fail
    all_goals exact leafN (view3 (e2 _))
def eI (n : Int) : AV := I n
attribute [go_sem] eI
theorem pur_eI (n : Int) : (eI n).pur = true := rfl
theorem purL_i (l : List Int) : AV.purL (l.map eI) = true := purL_map _ _ pur_eI
def fitsK (a b : Int) : Bool := decide (a = b) || decide (a = 0) || decide (b = 0)
def orK (a b : Int) : Int := if a = 0 then b else a
theorem typing_Fits (a b : Int) : CallF Tryz.prog n_typing_Fits [I a, I b] (.bool (fitsK a b)) := by
  refine CallF.of_nil (of_typing_Fits (by simp) ?_) rfl
  unfold b_typing_Fits WpR
  intro Q hQr hQn hQp
  repeat' first | refine go_ ?_ | refine br_ (fun hw => ?_) (fun hw => ?_) <;> try omega | fail
  all_goals refine leafE ?_ rfl
  all_goals (refine congrArg AV.bool ?_; rw [Bool.eq_iff_iff]; simp only [fitsK, Bool.and_eq_true, Bool.or_eq_true, decide_eq_true_eq, beq_iff_eq, Bool.not_eq_true', decide_eq_false_iff_not, beq_eq_false_iff_ne, ne_eq, true_iff, false_iff, iff_true, iff_false, Bool.false_eq_true, Bool.true_eq_false, not_and, not_or] at *; omega)
theorem ref15_Fits (a b : Int) : CallF Tryz.prog n_ref15_Fits [I a, I b] (.bool (fitsK a b)) := by
  refine CallF.of_nil (of_ref15_Fits (by simp) ?_) rfl
  unfold b_ref15_Fits WpR
  intro Q hQr hQn hQp
  repeat' first | refine go_ ?_ | refine br_ (fun hw => ?_) (fun hw => ?_) <;> try omega | fail
  all_goals refine leafE ?_ rfl
  all_goals (refine congrArg AV.bool ?_; rw [Bool.eq_iff_iff]; simp only [fitsK, Bool.and_eq_true, Bool.or_eq_true, decide_eq_true_eq, beq_iff_eq, Bool.not_eq_true', decide_eq_false_iff_not, beq_eq_false_iff_ne, ne_eq, true_iff, false_iff, iff_true, iff_false, Bool.false_eq_true, Bool.true_eq_false, not_and, not_or] at *; omega)
theorem typing_either (a b : Int) : CallF Tryz.prog n_typing_either_Kind [I a, I b] (I (orK a b)) := by
  refine CallF.of_nil (of_typing_either_Kind (by simp) ?_) rfl
  unfold b_typing_either_Kind WpR
  intro Q hQr hQn hQp
  repeat' first | refine go_ ?_ | refine br_ (fun hw => ?_) (fun hw => ?_) <;> try omega | fail
  all_goals refine leafE ?_ rfl
  all_goals (unfold orK; first | rw [if_neg (by assumption)] | rw [if_pos (by assumption)] | (subst a; rfl))
theorem ref15_or (a b : Int) : CallF Tryz.prog n_ref15_or [I a, I b] (I (orK a b)) := by
  refine CallF.of_nil (of_ref15_or (by simp) ?_) rfl
  unfold b_ref15_or WpR
  intro Q hQr hQn hQp
  repeat' first | refine go_ ?_ | refine br_ (fun hw => ?_) (fun hw => ?_) <;> try omega | fail
  all_goals refine leafE ?_ rfl
  all_goals (unfold orK; first | rw [if_neg (by assumption)] | rw [if_pos (by assumption)] | (subst a; rfl))
theorem any_all {α : Type} {p : α → Bool} (l : List α) : l.all p = !(l.any fun x => !(p x)) := by
  induction l with
  | nil => rfl
  | cons x r ih => simp [ih]
theorem typing_all (w : Int) (l : List Int) (hl : l.length ≤ 2 ^ 60) : CallF Tryz.prog n_typing_all [I w, .lst false E1 (l.map eI)] (.bool (l.all fun k => fitsK k w)) := by
  refine CallF.of_nil (of_typing_all (by simp) ?_) (by simp [AV.pur, AV.purL, purL_i])
  unfold b_typing_all WpR
  intro Q hQr hQn hQp
  repeat' first | refine go_ ?_ | refine br_ (fun hw => ?_) (fun hw => ?_) <;> try omega | fail
  with_reducible refine loop_i [4, 6, 9, 10, 11, 12, 13, 14, 15, 16, 17] (fun i : Nat => [(9, I i)]) (fun _ => []) (fun i => i ≤ l.length ∧ ∀ k, k < i → (!(fitsK (l.getD k default) w)) = false) (fun i => l.length - i) (0) ?_ ?_ ?_ ?_
  · simp
  · rfl
  · exact at_
  rintro i r ⟨h1, h2⟩
  by_cases hi : i < l.length
  · repeat' first | refine go_ ?_ | refine cf_ (typing_Fits _ _) ?_ | refine br_ (fun hw => ?_) (fun hw => ?_) <;> try omega | fail
    · refine leafE ?_ rfl
      rw [any_all, any_at (p := fun x => !(fitsK x w)) hi (by simpa using hw)]; rfl
    · refine ⟨i + 1, ?_, ?_, by first | rfl | (simp [go_sem]; done), ou_, at_⟩ <;> (try dsimp only)
      · exact ⟨by omega, before_succ h2 (by simpa using hw)⟩
      · omega
  · repeat' first | refine go_ ?_ | refine br_ (fun hw => ?_) (fun hw => ?_) <;> try omega | fail
    refine leafE ?_ rfl
    rw [any_all, any_non (p := fun x => !(fitsK x w)) (fun k hk => h2 k (by omega))]; rfl
theorem slices_Index_Kind (l : List Int) (v : Int) (hl : l.length ≤ 2 ^ 60) : CallF Tryz.prog n_slices_Index_Kind [.lst false E1 (l.map eI), I v] (I (idxF (fun x => x == v) l)) := by
  refine CallF.of_nil (of_slices_Index_Kind (by simp) ?_) (by simp [AV.pur, AV.purL, purL_i])
  unfold b_slices_Index_Kind WpR
  intro Q hQr hQn hQp
  repeat' first | refine go_ ?_ | refine br_ (fun hw => ?_) (fun hw => ?_) <;> try omega | fail
  with_reducible refine loop_i [4, 5, 8, 9, 10, 11, 12, 13, 14, 15, 16, 17, 18] (fun i : Nat => [(8, I i)]) (fun _ => []) (fun i => i ≤ l.length ∧ ∀ k, k < i → (l.getD k default == v) = false) (fun i => l.length - i) (0) ?_ ?_ ?_ ?_
  · simp
  · rfl
  · exact at_
  rintro i r ⟨h1, h2⟩
  by_cases hi : i < l.length
  · repeat' first | refine go_ ?_ | refine br_ (fun hw => ?_) (fun hw => ?_) <;> try omega | fail
    · refine leafE ?_ rfl
      rw [idxF_at (p := fun x => x == v) hi h2 (by simp_all)]
    · refine ⟨i + 1, ?_, ?_, by first | rfl | (simp [go_sem]; done), ou_, at_⟩ <;> (try dsimp only)
      · exact ⟨by omega, before_succ h2 (by rw [beq_eq_false_iff_ne]; intro h; exact hw h.symm)⟩
      · omega
  · repeat' first | refine go_ ?_ | refine br_ (fun hw => ?_) (fun hw => ?_) <;> try omega | fail
    refine leafE ?_ rfl
    rw [idxF_none (p := fun x => x == v) (fun k hk => h2 k (by omega))]
theorem slices_Contains_Kind (l : List Int) (v : Int) (hl : l.length ≤ 2 ^ 60) : CallF Tryz.prog n_slices_Contains_Kind [.lst false E1 (l.map eI), I v] (.bool (decide (0 ≤ idxF (fun x => x == v) l))) := by
  refine CallF.of_nil (of_slices_Contains_Kind (by simp) ?_) (by simp [AV.pur, AV.purL, purL_i])
  unfold b_slices_Contains_Kind WpR
  intro Q hQr hQn hQp
  repeat' first | refine go_ ?_ | refine cf_ (slices_Index_Kind l v hl) ?_ | refine br_ (fun hw => ?_) (fun hw => ?_) <;> try omega | fail
  all_goals exact leafE rfl rfl
def typS (op : Int) (ks : List Int) : Int × Bool :=
  if op = 3 ∨ op = 5 ∨ op = 6 ∨ op = 7 then (1, ks.all fun k => fitsK k 1)
  else if op = 4 then (if orK (ks.getD 0 0) (ks.getD 1 0) = 2 then (2, ks.all fun k => fitsK k 2) else (1, ks.all fun k => fitsK k 1))
  else if op = 8 ∨ op = 9 then (3, fitsK (ks.getD 0 0) (ks.getD 1 0))
  else if op = 10 ∨ op = 11 ∨ op = 12 ∨ op = 13 then (3, fitsK (ks.getD 0 0) (ks.getD 1 0) && !(decide (0 ≤ idxF (fun x => x == 3) ks)))
  else if op = 14 ∨ op = 15 then (3, ks.all fun k => fitsK k 3)
  else (orK (ks.getD 1 0) (ks.getD 2 0), fitsK (ks.getD 0 0) 3 && fitsK (ks.getD 1 0) (ks.getD 2 0))
theorem typing_rule1 (a : Int) : CallF Tryz.prog n_typing_rule [I 3, .lst false E1 ([a].map eI)] (.tup [I (typS 3 [a]).1, .bool (typS 3 [a]).2]) := by
  have h := fun w => typing_all w [a] (by simp)
  simp only [List.map, eI] at h ⊢
  refine CallF.of_nil (of_typing_rule (by simp) ?_) rfl
  unfold b_typing_rule WpR
  intro Q hQr hQn hQp
  repeat' first | simp (disch := omega) only [go_sem, hQr, hQn, hQp, wrapK_i64, wrapK_u8, wrapK_u64, Nat.reduceAdd, Nat.reduceBEq, ↓reduceIte, Int.reduceToNat] | refine go_ ?_ | refine cf_ (h _) ?_ | refine br_ (fun hw => ?_) (fun hw => ?_) <;> try omega | fail
  all_goals exact leafNE rfl rfl
theorem typing_rule2 (op a b : Int) (h4 : 4 ≤ op) (h15 : op ≤ 15) : CallF Tryz.prog n_typing_rule [I op, .lst false E1 ([a, b].map eI)] (.tup [I (typS op [a, b]).1, .bool (typS op [a, b]).2]) := by
  have h := fun w => typing_all w [a, b] (by simp)
  have hc := slices_Contains_Kind [a, b] 3 (by simp)
  simp only [List.map, eI] at h hc ⊢
  generalize hR : typS op [a, b] = R
  refine CallF.of_nil (of_typing_rule (by simp) ?_) rfl
  unfold b_typing_rule WpR
  intro Q hQr hQn hQp
  repeat' first | simp (disch := omega) only [go_sem, hQr, hQn, hQp, wrapK_i64, wrapK_u8, wrapK_u64, Nat.reduceAdd, Nat.reduceBEq, ↓reduceIte, Int.reduceToNat] | refine go_ ?_ | refine cf_ (h _) ?_ | refine cf_ hc ?_ | refine cf_ (typing_either a b) ?_ | refine cf_ (typing_Fits a b) ?_ | refine br_ (fun hw => ?_) (fun hw => ?_) <;> try omega | fail
  all_goals (refine leafNE ?_ rfl; clear hQr hQn hQp h hc; subst hR)
  all_goals (simp_all [typS]; done)
theorem typing_rule3 (a b c : Int) : CallF Tryz.prog n_typing_rule [I 16, .lst false E1 ([a, b, c].map eI)] (.tup [I (typS 16 [a, b, c]).1, .bool (typS 16 [a, b, c]).2]) := by
  simp only [List.map, eI]
  refine CallF.of_nil (of_typing_rule (by simp) ?_) rfl
  unfold b_typing_rule WpR
  intro Q hQr hQn hQp
  repeat' first | simp (disch := omega) only [go_sem, hQr, hQn, hQp, wrapK_i64, wrapK_u8, wrapK_u64, Nat.reduceAdd, Nat.reduceBEq, ↓reduceIte, Int.reduceToNat] | refine go_ ?_ | refine cf_ (typing_either b c) ?_ | refine cf_ (typing_Fits a 3) ?_ | refine cf_ (typing_Fits b c) ?_ | refine br_ (fun hw => ?_) (fun hw => ?_) <;> try omega | fail
  all_goals (refine leafNE ?_ rfl; simp_all [typS])
def typR (op : Int) (ks : List Int) : Int × Int := if (typS op ks).2 then ((typS op ks).1, 0) else (0, 14)
theorem idx3 (a b : Int) : decide (0 ≤ idxF (fun x => x == 3) [a, b]) = (decide (a = 3) || decide (b = 3)) := by
  by_cases h1 : a = 3
  · subst h1; simp [idxF, List.findIdx?_cons]
  · by_cases h2 : b = 3
    · subst h2; simp [idxF, List.findIdx?_cons, h1]
    · simp [idxF, List.findIdx?_cons, h1, h2]
theorem ref15_of1 (a : Int) : CallF Tryz.prog n_ref15_of [I 3, .lst false E1 ([a].map eI)] (.tup [I (typR 3 [a]).1, I (typR 3 [a]).2]) := by
  simp only [List.map, eI]
  generalize hR : typR 3 [a] = R
  refine CallF.of_nil (of_ref15_of (by simp) ?_) rfl
  unfold b_ref15_of WpR
  intro Q hQr hQn hQp
  repeat' first | simp (disch := omega) only [go_sem, hQr, hQn, hQp, wrapK_i64, wrapK_u8, wrapK_u64, Nat.reduceAdd, Nat.reduceBEq, ↓reduceIte, Int.reduceToNat] | refine go_ ?_ | refine cf_ (ref15_Fits _ _) ?_ | refine br_ (fun hw => ?_) (fun hw => ?_) <;> try omega | fail
  all_goals (refine leafNE ?_ rfl; clear hQr hQn hQp; subst hR; simp_all [typR, typS])
theorem ref15_of2 (op a b : Int) (h4 : 4 ≤ op) (h15 : op ≤ 15) : CallF Tryz.prog n_ref15_of [I op, .lst false E1 ([a, b].map eI)] (.tup [I (typR op [a, b]).1, I (typR op [a, b]).2]) := by
  simp only [List.map, eI]
  generalize hR : typR op [a, b] = R
  refine CallF.of_nil (of_ref15_of (by simp) ?_) rfl
  unfold b_ref15_of WpR
  intro Q hQr hQn hQp
  repeat' first | simp (disch := omega) only [go_sem, hQr, hQn, hQp, wrapK_i64, wrapK_u8, wrapK_u64, Nat.reduceAdd, Nat.reduceBEq, ↓reduceIte, Int.reduceToNat] | refine go_ ?_ | refine cf_ (ref15_Fits _ _) ?_ | refine cf_ (ref15_or _ _) ?_ | refine br_ (fun hw => ?_) (fun hw => ?_) <;> try omega | fail
  all_goals (refine leafNE ?_ rfl; clear hQr hQn hQp; subst hR)
  all_goals first | (simp_all [typR, typS, idx3]; done) | skip
theorem ref15_of3 (a b c : Int) : CallF Tryz.prog n_ref15_of [I 16, .lst false E1 ([a, b, c].map eI)] (.tup [I (typR 16 [a, b, c]).1, I (typR 16 [a, b, c]).2]) := by
  simp only [List.map, eI]
  generalize hR : typR 16 [a, b, c] = R
  refine CallF.of_nil (of_ref15_of (by simp) ?_) rfl
  unfold b_ref15_of WpR
  intro Q hQr hQn hQp
  repeat' first | simp (disch := omega) only [go_sem, hQr, hQn, hQp, wrapK_i64, wrapK_u8, wrapK_u64, Nat.reduceAdd, Nat.reduceBEq, ↓reduceIte, Int.reduceToNat] | refine go_ ?_ | refine cf_ (ref15_Fits _ _) ?_ | refine cf_ (ref15_or _ _) ?_ | refine br_ (fun hw => ?_) (fun hw => ?_) <;> try omega | fail
  all_goals (refine leafNE ?_ rfl; clear hQr hQn hQp; subst hR; simp_all [typR, typS])
theorem slices_IndexFunc_Column (fn : FuncId) (cap : List AV) (hcap : AV.purL cap = true) (p : Col → Bool) (l : List Col) (h : ∀ k, k < l.length → CallF Tryz.prog fn (eCol (l.getD k default) :: cap) (.bool (p (l.getD k default)))) (hl : l.length ≤ 2 ^ 62) :
    CallF Tryz.prog n_slices_IndexFunc_Column [eCols l, .fn (.func fn) [] cap] (I (idxF p l)) := by
  refine CallF.of_nil (of_slices_IndexFunc_Column (by simp) ?_) (by simp [AV.pur, AV.purL, hcap, pur_eCols])
  unfold b_slices_IndexFunc_Column WpR
  intro Q hQr hQn hQp
  repeat' first | refine go_ ?_ | refine br_ (fun hw => ?_) (fun hw => ?_) <;> try omega | fail
  with_reducible refine loop_i [4, 5, 8, 9, 10, 11, 12, 13, 14, 15, 16, 17, 18] (fun i : Nat => [(8, I i)]) (fun _ => []) (fun i => i ≤ l.length ∧ ∀ k, k < i → p (l.getD k default) = false) (fun i => l.length - i) (0) ?_ ?_ ?_ ?_
  · simp
  · rfl
  · exact at_
  · rintro i r ⟨hi, hp⟩
    by_cases hin : i < l.length
    · have hx := h i hin
      simp only [eCol, eVals] at hx
      repeat' first | refine go_ ?_ | refine cf_ hx ?_ | refine br_ (fun hw => ?_) (fun hw => ?_) <;> try omega | fail
      · refine leafE ?_ rfl
        refine congrArg I ?_
        exact (idxF_at hin hp hw).symm
      · refine ⟨i + 1, ?_, ?_, by first | rfl | (simp [go_sem]; done), ou_, at_⟩ <;> (try dsimp only)
        · exact ⟨by omega, before_succ hp hw⟩
        · omega
    · repeat' first | refine go_ ?_ | refine br_ (fun hw => ?_) (fun hw => ?_) <;> try omega | fail
      refine leafE ?_ rfl
      refine congrArg I ?_
      exact (idxF_none fun k hk => hp k (by omega)).symm
def atS (l : List Col) (s : Str) : Int := idxF (fun c => c.name == s) l
theorem typing_at_1 (c : Col) (s : Str) : CallF Tryz.prog n_typing_at_1 [eCol c, .eref E1 (.str s) 0] (.bool (c.name == s)) := by
  refine CallF.of_nil (of_typing_at_1 (by simp) ?_) (by simp [AV.pur, AV.purL, pur_eCol])
  unfold b_typing_at_1 WpR
  intro Q hQr hQn hQp
  repeat' first | refine go_ ?_ | refine br_ (fun hw => ?_) (fun hw => ?_) <;> try omega | fail
  all_goals exact leafE rfl rfl
theorem typing_at (l : List Col) (s : Str) (hl : l.length ≤ 2 ^ 60) : CallF Tryz.prog n_typing_at [eCols l, .str s] (I (atS l s)) := by
  have hc := slices_IndexFunc_Column n_typing_at_1 [.eref E1 (.str s) 0] rfl (fun c => c.name == s) l (fun k _ => typing_at_1 _ s) (by omega)
  simp only [eCols] at hc
  refine CallF.of_nil (of_typing_at (by simp) ?_) (by simp [AV.pur, AV.purL, pur_eCols])
  unfold b_typing_at WpR
  intro Q hQr hQn hQp
  repeat' first | refine go_ ?_ | refine cv_ hc ?_ | refine br_ (fun hw => ?_) (fun hw => ?_) <;> try omega | fail
  all_goals exact leafE rfl rfl
theorem ref15_At (l : List Col) (s : Str) (hl : l.length ≤ 2 ^ 60) : CallF Tryz.prog n_ref15_At [eCols l, .str s] (I (atS l s)) := by
  refine CallF.of_nil (of_ref15_At (by simp) ?_) (by simp [AV.pur, AV.purL, pur_eCols])
  unfold b_ref15_At WpR
  intro Q hQr hQn hQp
  repeat' first | refine go_ ?_ | refine br_ (fun hw => ?_) (fun hw => ?_) <;> try omega | fail
  with_reducible refine loop_i [4, 5, 6, 7, 8, 9, 10, 11, 12, 13, 14, 15, 16, 17, 18, 19] (fun i : Nat => [(5, I i)]) (fun _ => []) (fun i => i ≤ l.length ∧ ∀ k, k < i → ((l.getD k default).name == s) = false) (fun i => l.length - i) (0) ?_ ?_ ?_ ?_
  · simp
  · rfl
  · exact at_
  rintro i r ⟨hi, hp⟩
  by_cases hin : i < l.length
  · repeat' first | refine go_ ?_ | refine br_ (fun hw => ?_) (fun hw => ?_) <;> try omega | fail
    · refine leafE ?_ rfl
      refine congrArg I ?_
      exact (idxF_at (p := fun c : Col => c.name == s) hin hp (by simpa using hw)).symm
    · refine ⟨i + 1, ?_, ?_, by first | rfl | (simp [go_sem]; done), ou_, at_⟩ <;> (try dsimp only)
      · exact ⟨by omega, before_succ hp (by simpa using hw)⟩
      · omega
  · repeat' first | refine go_ ?_ | refine br_ (fun hw => ?_) (fun hw => ?_) <;> try omega | fail
    refine leafE ?_ rfl
    refine congrArg I ?_
    exact (idxF_none (p := fun c : Col => c.name == s) fun k hk => hp k (by omega)).symm
end Go.Proofs.YthkhdedadacakaaGreatDoor
