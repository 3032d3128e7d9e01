/- Part of a proof: see Root. -/
import Derived.Test.YtmbgnaoilncbnaaGreatW18
set_option linter.unnecessarySimpa false
set_option linter.unusedSimpArgs false
set_option linter.unusedVariables false
namespace Go.Proofs.YtmbgnaoilncbnaaGreat
open Go.AM
set_option maxRecDepth 4000
theorem leafS {v r : AV} {ds0 ds : List AV} {τ : Store} (hv : View (.dead :: τ) v r) (hd : ViewL (.dead :: τ) ds0 ds) :
    ∃ r0 ds1 τ1, Out.ret (oneOf [v]) = Out.ret r0 ∧ AObj.cells ds0 :: τ = AObj.cells ds1 :: τ1 ∧ View (.dead :: τ1) r0 r ∧ ViewL (.dead :: τ1) ds1 ds := ⟨_, _, _, rfl, rfl, hv, hd⟩
theorem ViewL.eqv {σ : Store} {a b : List AV} (h : a = b) (hp : AV.purL b = true) : ViewL σ a b := by subst h; exact ViewL.refl hp
def eRe (s : Str) (e : Int) : List AV := [.str s, I e]
theorem purL_re (s : Str) (e : Int) : AV.purL (eRe s e) = true := rfl
def orE (e x : Int) : Int := if x ≠ 0 then x else e
theorem orE_bad (e x : Int) : (orE e x != 0) = ((e != 0) || (x != 0)) := by
  unfold orE
  by_cases h : x = 0
  · subst h; simp
  · rw [if_pos h]; have : (x != 0) = true := by simpa using h
    rw [this]; simp
def numE (s : Str) (e : Int) : Int × Str × Int := ((takeN s).1, (takeN s).2.1, orE e (takeN s).2.2)
def rowE (s : Str) (e : Int) : List Val × Str × Int := ((takeR s 6).1, (takeR s 6).2.1, orE e (takeR s 6).2.2)
theorem numR_E (s : Str) (e : Int) : numR s (e != 0) = ((numE s e).1, (numE s e).2.1, (numE s e).2.2 != 0) := by
  unfold numR numE; dsimp only; rw [orE_bad]
theorem rowR_E (s : Str) (e : Int) : ordR (some 6) s (e != 0) = ((rowE s e).1, (rowE s e).2.1, (rowE s e).2.2 != 0) := by
  unfold ordR rowE; dsimp only; rw [orE_bad]
def numsE : Nat → List Int → Str → Int → List Int × Str × Int
  | 0, out, s, e => (out, s, e)
  | k + 1, out, s, e => if e ≠ 0 then (out, s, e) else numsE k (out ++ [(numE s e).1]) (numE s e).2.1 (numE s e).2.2
def rowsE : Nat → List (List Val) → Str → Int → List (List Val) × Str × Int
  | 0, out, s, e => (out, s, e)
  | k + 1, out, s, e => if e ≠ 0 then (out, s, e) else rowsE k (out ++ [(rowE s e).1]) (rowE s e).2.1 (rowE s e).2.2
theorem numsR_E : ∀ (k : Nat) (out : List Int) (s : Str) (e : Int), numsR k out s (e != 0) = ((numsE k out s e).1, (numsE k out s e).2.1, (numsE k out s e).2.2 != 0) := by
  intro k
  induction k with
  | zero => intro out s e; rfl
  | succ k ih =>
    intro out s e
    rw [numsR, numsE]
    by_cases h : e = 0
    · subst h
      rw [if_neg (by simp), if_neg (by simp)]
      have := numR_E s 0
      rw [this, ih]
    · rw [if_pos (by simpa using h), if_pos h]
theorem rowsR_E : ∀ (k : Nat) (out : List (List Val)) (s : Str) (e : Int), rowsR k out s (e != 0) = ((rowsE k out s e).1, (rowsE k out s e).2.1, (rowsE k out s e).2.2 != 0) := by
  intro k
  induction k with
  | zero => intro out s e; rfl
  | succ k ih =>
    intro out s e
    rw [rowsR, rowsE]
    by_cases h : e = 0
    · subst h
      rw [if_neg (by simp), if_neg (by simp)]
      have := rowR_E s 0
      rw [this, ih]
    · rw [if_pos (by simpa using h), if_pos h]
def listI (s : Str) (e : Int) : List Int × Str × Int := numsE (numE s e).1.toNat [] (numE s e).2.1 (numE s e).2.2
def listR (s : Str) (e : Int) : List (List Val) × Str × Int := rowsE (numE s e).1.toNat [] (numE s e).2.1 (numE s e).2.2
def readP (s : Str) : Ent × Int :=
  let t := takeT s 1400
  let v := numE t.2.1 t.2.2
  let i := rowE v.2.1 v.2.2
  let e := numE i.2.1 i.2.2
  let r := listI e.2.1 e.2.2
  let q := listR r.2.1 r.2.2
  (⟨t.1, v.1, i.1, e.1, r.1, q.1⟩, q.2.2)
theorem readP_eq (s : Str) : (readE s).1 = (readP s).1 ∧ (readE s).2.2 = ((readP s).2 != 0) := by
  have h0 : textR s false = ((takeT s 1400).1, (takeT s 1400).2.1, (takeT s 1400).2.2 != 0) := by unfold textR; simp
  unfold readE readP entNums entRows listI listR
  rw [h0]
  dsimp only
  simp only [numR_E, rowR_E, numsR_E, rowsR_E]
  exact ⟨trivial, trivial⟩
theorem entry_num (s : Str) (e : Int) (hs : s.length ≤ 2 ^ 60) : CallM Tryz.prog n_entry_reader_num 0 [] (eRe s e) (eRe (numE s e).2.1 (numE s e).2.2) (I (numE s e).1) := by
  have c := octet_TakeNum s (by omega)
  unfold numE orE
  generalize takeN s = t at *
  obtain ⟨n, r, x⟩ := t
  simp only [eN] at c
  refine CallM.of_one (of_entry_reader_num (by simp) ?_) rfl (purL_re _ _)
  unfold b_entry_reader_num WpR
  intro Q hQr hQn hQp
  simp only [eRe]
  repeat' first | refine go_ ?_ | refine cf_ c ?_ | refine br_ (fun hw => ?_) (fun hw => ?_) <;> try omega | fail
  · exact leafS (View.eqv rfl rfl) (ViewL.eqv (by rw [if_pos (by omega)]; rfl) rfl)
  · exact leafS (View.eqv rfl rfl) (ViewL.eqv (by rw [if_neg (by omega)]; rfl) rfl)
theorem entry_row (s : Str) (e : Int) (hs : s.length ≤ 2 ^ 30) : CallM Tryz.prog n_entry_reader_row 0 [] (eRe s e) (eRe (rowE s e).2.1 (rowE s e).2.2) (eVals (rowE s e).1) := by
  have c := value_TakeRow s 6 hs
  unfold rowE orE
  generalize takeR s 6 = t at *
  obtain ⟨n, r, x⟩ := t
  simp only [eVsS, eVals] at c ⊢
  refine CallM.of_one (of_entry_reader_row (by simp) ?_) rfl (purL_re _ _)
  unfold b_entry_reader_row WpR
  intro Q hQr hQn hQp
  simp only [eRe]
  repeat' first | refine go_ ?_ | refine cf_ c ?_ | refine br_ (fun hw => ?_) (fun hw => ?_) <;> try omega | fail
  · exact leafS (View.eqv rfl (by simp)) (ViewL.eqv (by rw [if_pos (by omega)]; rfl) rfl)
  · exact leafS (View.eqv rfl (by simp)) (ViewL.eqv (by rw [if_neg (by omega)]; rfl) rfl)
theorem numE_len (s : Str) (e : Int) : (numE s e).2.1.length ≤ s.length ∧ ((numE s e).2.2 = 0 → (numE s e).2.1.length < s.length) := by
  have h := takeN_len s
  refine ⟨h.1, fun h0 => h.2.1 ?_⟩
  unfold numE orE at h0
  dsimp only at h0
  split at h0
  · assumption
  · omega
theorem rowE_len (s : Str) (e : Int) : (rowE s e).2.1.length ≤ s.length ∧ ((rowE s e).2.2 = 0 → (rowE s e).2.1.length < s.length) := by
  have h := takeR_ok s 6
  have h2 := takeR_lt s 6
  refine ⟨h.1, fun h0 => h2 ?_⟩
  unfold rowE orE at h0
  dsimp only at h0
  split at h0
  · assumption
  · omega
theorem entry_list_int (s : Str) (e : Int) (hs : s.length ≤ 2 ^ 28) : CallMF Tryz.prog n_entry_list_int (eRe s e) (eRe (listI s e).2.1 (listI s e).2.2) (eInts (listI s e).1) n_entry_reader_num := by
  obtain ⟨E, hE⟩ : ∃ E, listI s e = E := ⟨_, rfl⟩
  rw [hE]
  unfold listI at hE
  have c1 := entry_num s e (by omega)
  have hn := numE_len s e
  generalize numE s e = t at *
  obtain ⟨n, s0, e0⟩ := t
  dsimp only at hE hn
  simp only [eRe] at c1
  refine CallMF.of_one (of_entry_list_int (by simp) ?_) (purL_re _ _)
  unfold b_entry_list_int WpR
  intro Q hQr hQn hQp
  simp only [eRe]
  repeat' first | refine go_ ?_ | refine cm_ c1 ?_ | refine br_ (fun hw => ?_) (fun hw => ?_) <;> try omega | fail
  with_reducible refine loop_i [5, 7, 10, 11, 12, 13, 14, 15, 16, 17, 18, 19, 20, 21, 22, 23, 24, 25, 26] (fun q : List Int × Str × Int => [(5, .own E1 1 q.1.length 0 q.1.length)]) (fun q => [.cells [.str q.2.1, I q.2.2], .vec E1 (q.1.map eInt)]) (fun q => q.1.length + q.2.1.length + (if q.2.2 ≠ 0 then 0 else 1) ≤ 2 ^ 28 + 1 ∧ E = numsE (n.toNat - q.1.length) q.1 q.2.1 q.2.2) (fun q => n.toNat - q.1.length) (([], s0, e0)) ?_ ?_ ?_ ?_
  · refine ⟨?_, by simpa using hE.symm⟩
    dsimp only; split <;> simp <;> omega
  · rfl
  · exact at_
  rintro ⟨out, s1, e1⟩ u ⟨g1, g2⟩
  dsimp only at g1 g2
  by_cases hgo : (out.length : Int) < n ∧ e1 = 0
  · obtain ⟨hlt, rfl⟩ := hgo
    obtain ⟨j, hj⟩ : ∃ j, n.toNat - out.length = j + 1 := ⟨n.toNat - out.length - 1, by omega⟩
    rw [hj, numsE, if_neg (by simp)] at g2
    rw [if_neg (by simp)] at g1
    have c2 := entry_num s1 0 (by omega)
    have hl := numE_len s1 0
    generalize numE s1 0 = t at *
    obtain ⟨x, s2, e2⟩ := t
    dsimp only at g2 hl
    simp only [eRe] at c2
    repeat' first | refine go_ ?_ | refine cm_ c2 ?_ | refine br_ (fun hw => ?_) (fun hw => ?_) <;> try omega | fail
    all_goals first | exact ab_ | skip
    refine ⟨(out ++ [x], s2, e2), ?_, ?_, ?_, ou_, ?_⟩
    · have e : n.toNat - (out ++ [x]).length = j := by simp; omega
      dsimp only
      rw [e]
      refine ⟨?_, g2⟩
      rw [List.length_append, List.length_singleton]
      by_cases h0 : e2 = 0
      · have := hl.2 h0; rw [if_neg (by simpa using h0)]; omega
      · rw [if_pos h0]; omega
    · simp; omega
    · first | rfl | (simp [go_sem]; done)
    · dsimp only; simp only [List.length_append, List.length_singleton]; simp (disch := omega) only [at_nil, at_cons, and_true, go_sem, hQr, hQn, hQp, wrapK_i64, wrapK_u8, wrapK_u64, Nat.reduceAdd, Nat.reduceBEq, ↓reduceIte, Int.natCast_add, Int.cast_ofNat_Int] <;> (try trivial) <;> (try omega) <;> (try (repeat (first | trivial | (refine And.intro ?_ ?_) | (congr 1; omega))))
  · have hE2 : E = (out, s1, e1) := by
      rw [g2]
      cases hk : n.toNat - out.length with
      | zero => rw [numsE]
      | succ j =>
        rw [numsE, if_pos]
        intro h0
        exact absurd ⟨by omega, h0⟩ hgo
    repeat' first | refine go_ ?_ | refine br_ (fun hw => ?_) (fun hw => ?_) <;> try omega | fail
    all_goals first
      | exact ab_
      | (exfalso; refine hgo ⟨?_, ?_⟩ <;> omega)
      | (rw [hE2]; exact leafS (View.vec rfl (by simp) (by simp) (purL_i _)) (ViewL.refl rfl))
theorem entry_list_LValue (s : Str) (e : Int) (hs : s.length ≤ 2 ^ 28) : CallMF Tryz.prog n_entry_list_LValue (eRe s e) (eRe (listR s e).2.1 (listR s e).2.2) (eRows (listR s e).1) n_entry_reader_row := by
  obtain ⟨E, hE⟩ : ∃ E, listR s e = E := ⟨_, rfl⟩
  rw [hE]
  unfold listR at hE
  have c1 := entry_num s e (by omega)
  have hn := numE_len s e
  generalize numE s e = t at *
  obtain ⟨n, s0, e0⟩ := t
  dsimp only at hE hn
  simp only [eRe] at c1
  refine CallMF.of_one (of_entry_list_LValue (by simp) ?_) (purL_re _ _)
  unfold b_entry_list_LValue WpR
  intro Q hQr hQn hQp
  simp only [eRe]
  repeat' first | refine go_ ?_ | refine cm_ c1 ?_ | refine br_ (fun hw => ?_) (fun hw => ?_) <;> try omega | fail
  with_reducible refine loop_i [5, 7, 10, 11, 12, 13, 14, 15, 16, 17, 18, 19, 20, 21, 22, 23, 24, 25, 26] (fun q : List (List Val) × Str × Int => [(5, .own E1 1 q.1.length 0 q.1.length)]) (fun q => [.cells [.str q.2.1, I q.2.2], .vec E1 (q.1.map eVals)]) (fun q => q.1.length + q.2.1.length + (if q.2.2 ≠ 0 then 0 else 1) ≤ 2 ^ 28 + 1 ∧ E = rowsE (n.toNat - q.1.length) q.1 q.2.1 q.2.2) (fun q => n.toNat - q.1.length) (([], s0, e0)) ?_ ?_ ?_ ?_
  · refine ⟨?_, by simpa using hE.symm⟩
    dsimp only; split <;> simp <;> omega
  · rfl
  · exact at_
  rintro ⟨out, s1, e1⟩ u ⟨g1, g2⟩
  dsimp only at g1 g2
  by_cases hgo : (out.length : Int) < n ∧ e1 = 0
  · obtain ⟨hlt, rfl⟩ := hgo
    obtain ⟨j, hj⟩ : ∃ j, n.toNat - out.length = j + 1 := ⟨n.toNat - out.length - 1, by omega⟩
    rw [hj, rowsE, if_neg (by simp)] at g2
    rw [if_neg (by simp)] at g1
    have c2 := entry_row s1 0 (by omega)
    have hl := rowE_len s1 0
    generalize rowE s1 0 = t at *
    obtain ⟨x, s2, e2⟩ := t
    dsimp only at g2 hl
    simp only [eRe, eVals] at c2
    repeat' first | refine go_ ?_ | refine cm_ c2 ?_ | refine br_ (fun hw => ?_) (fun hw => ?_) <;> try omega | fail
    all_goals first | exact ab_ | skip
    refine ⟨(out ++ [x], s2, e2), ?_, ?_, ?_, ou_, ?_⟩
    · have e : n.toNat - (out ++ [x]).length = j := by simp; omega
      dsimp only
      rw [e]
      refine ⟨?_, g2⟩
      rw [List.length_append, List.length_singleton]
      by_cases h0 : e2 = 0
      · have := hl.2 h0; rw [if_neg (by simpa using h0)]; omega
      · rw [if_pos h0]; omega
    · simp; omega
    · first | rfl | (simp [go_sem]; done)
    · dsimp only; simp only [List.length_append, List.length_singleton]; simp (disch := omega) only [at_nil, at_cons, and_true, go_sem, hQr, hQn, hQp, wrapK_i64, wrapK_u8, wrapK_u64, Nat.reduceAdd, Nat.reduceBEq, ↓reduceIte, Int.natCast_add, Int.cast_ofNat_Int] <;> (try trivial) <;> (try omega) <;> (try (repeat (first | trivial | (refine And.intro ?_ ?_) | (congr 1; omega))))
  · have hE2 : E = (out, s1, e1) := by
      rw [g2]
      cases hk : n.toNat - out.length with
      | zero => rw [rowsE]
      | succ j =>
        rw [rowsE, if_pos]
        intro h0
        exact absurd ⟨by omega, h0⟩ hgo
    repeat' first | refine go_ ?_ | refine br_ (fun hw => ?_) (fun hw => ?_) <;> try omega | fail
    all_goals first
      | exact ab_
      | (exfalso; refine hgo ⟨?_, ?_⟩ <;> omega)
      | (rw [hE2]; exact leafS (View.vec rfl (by simp) (by simp) (purL_r _)) (ViewL.refl rfl))
theorem numsE_len : ∀ (k : Nat) (out : List Int) (s : Str) (e : Int), (numsE k out s e).2.1.length ≤ s.length := by
  intro k
  induction k with
  | zero => intro out s e; exact Nat.le_refl _
  | succ k ih =>
    intro out s e
    rw [numsE]
    split
    · exact Nat.le_refl _
    · exact Nat.le_trans (ih _ _ _) (numE_len s e).1
theorem listI_len (s : Str) (e : Int) : (listI s e).2.1.length ≤ s.length := Nat.le_trans (numsE_len _ _ _ _) (numE_len s e).1
def eEP (p : Ent × Int) : AV := .tup [eEnt p.1, I p.2]
theorem parseE_P (s : Str) : parseE s = if (readP s).2 ≠ 0 ∨ (bytesE (readP s).1).2 ≠ 0 ∨ (bytesE (readP s).1).1 ≠ s then (ent0, 4) else ((readP s).1, 0) := by
  obtain ⟨h1, h2⟩ := readP_eq s
  unfold parseE
  rw [h1, h2]
  by_cases h : (readP s).2 ≠ 0 ∨ (bytesE (readP s).1).2 ≠ 0 ∨ (bytesE (readP s).1).1 ≠ s
  · rw [if_pos h, if_pos]
    rcases h with h | h | h
    · exact .inl (by simpa using h)
    · exact .inr fun e => h (by rw [e])
    · exact .inr fun e => h (by rw [e])
  · rw [if_neg h, if_neg]
    rintro (h' | h')
    · exact h (.inl (by simpa using h'))
    · exact h (Classical.or_iff_not_imp_left.2 fun a => Classical.or_iff_not_imp_left.2 fun b c => h' (Prod.ext c (Classical.not_not.1 b)))
theorem parseE_no {s : Str} (h : (readP s).2 ≠ 0 ∨ (bytesE (readP s).1).2 ≠ 0 ∨ (bytesE (readP s).1).1 ≠ s) : parseE s = (ent0, 4) := by rw [parseE_P, if_pos h]
theorem parseE_yes {s : Str} (h1 : (readP s).2 = 0) (h2 : (bytesE (readP s).1).2 = 0) (h3 : (bytesE (readP s).1).1 = s) : parseE s = ((readP s).1, 0) := by
  rw [parseE_P, if_neg]; rintro (h | h | h)
  · exact h h1
  · exact h h2
  · exact h h3
set_option maxHeartbeats 4000000 in
theorem entry_Parse (s : Str) (hs : s.length ≤ 2 ^ 20) : CallF Tryz.prog n_entry_Parse [.str s] (eEP (parseE s)) := by
  have ok := readE_ok hs
  rw [(readP_eq s).1] at ok
  have cB := entry_Bytes (readP s).1 ok
  have hn := @parseE_no s
  have hy := @parseE_yes s
  obtain ⟨E, hE⟩ : ∃ E, parseE s = E := ⟨_, rfl⟩
  rw [hE] at hn hy ⊢
  clear hE ok
  unfold readP at cB hn hy
  have c0 := octet_TakeText s 1400 (by omega)
  have l0 := (takeT_len s 1400).2.1
  generalize takeT s 1400 = t at *
  obtain ⟨A, s1, e1⟩ := t
  dsimp only at cB hn hy l0
  have c1 := entry_num s1 e1 (by omega)
  have l1 := (numE_len s1 e1).1
  generalize numE s1 e1 = t at *
  obtain ⟨B, s2, e2⟩ := t
  dsimp only at cB hn hy l1
  have c2 := entry_row s2 e2 (by omega)
  have l2 := (rowE_len s2 e2).1
  generalize rowE s2 e2 = t at *
  obtain ⟨C, s3, e3⟩ := t
  dsimp only at cB hn hy l2
  have c3 := entry_num s3 e3 (by omega)
  have l3 := (numE_len s3 e3).1
  generalize numE s3 e3 = t at *
  obtain ⟨D, s4, e4⟩ := t
  dsimp only at cB hn hy l3
  have c4 := entry_list_int s4 e4 (by omega)
  have l4 := listI_len s4 e4
  generalize listI s4 e4 = t at *
  obtain ⟨F, s5, e5⟩ := t
  dsimp only at cB hn hy l4
  have c5 := entry_list_LValue s5 e5 (by omega)
  generalize listR s5 e5 = t at *
  obtain ⟨G, s6, e6⟩ := t
  dsimp only at cB hn hy c4 c5
  generalize bytesE ⟨A, B, C, D, F, G⟩ = b at *
  obtain ⟨bs, be⟩ := b
  simp only [eS, eRe, eBE, eEnt, cEnt, eInts, eVals, eRows] at c0 c1 c2 c3 c4 c5 cB
  refine CallF.of_nil (of_entry_Parse (by simp) ?_) (by simp [eEP])
  unfold b_entry_Parse WpR
  intro Q hQr hQn hQp
  repeat' first | refine go_ ?_ | refine cf_ c0 ?_ | refine cm_ c1 ?_ | refine cm_ c2 ?_ | refine cm_ c3 ?_ | with_reducible refine callL_mf c4 rfl ?_ | with_reducible refine callL_mf c5 rfl ?_ | refine cf_ cB ?_ | refine br_ (fun hw => ?_) (fun hw => ?_) <;> try omega | fail
  all_goals first
    | exact ab_
    | (refine leafN ?_; rw [hn (by first | exact .inl (by assumption) | exact .inr (.inl (by assumption)) | exact .inr (.inr (by assumption)))]; exact vw_)
    | (refine leafN ?_; rw [hy (by assumption) (by assumption) (by assumption)]; exact vw_)
    | trace_state
def eRb (s : Str) (b : Bool) : List AV := [.str s, .bool b]
theorem purL_rb (s : Str) (b : Bool) : AV.purL (eRb s b) = true := rfl
theorem ref21_num (s : Str) (b : Bool) (hs : s.length ≤ 2 ^ 60) : CallM Tryz.prog n_ref21_reader_num 0 [] (eRb s b) (eRb (numR s b).2.1 (numR s b).2.2) (I (numR s b).1) := by
  have c := ref01_TakeNum s (by omega)
  unfold numR
  generalize takeN s = t at *
  obtain ⟨n, r, e⟩ := t
  simp only [eN] at c
  refine CallM.of_one (of_ref21_reader_num (by simp) ?_) rfl (purL_rb _ _)
  unfold b_ref21_reader_num WpR
  intro Q hQr hQn hQp
  cases b <;> simp only [eRb]
  all_goals
    repeat' first | refine go_ ?_ | refine cf_ c ?_ | refine br_ (fun hw => ?_) (fun hw => ?_) <;> try omega | fail
  all_goals first | exact ab_ | (refine leafS (View.eqv rfl rfl) (ViewL.eqv ?_ rfl); simp [eRb]; done) | (refine leafS (View.eqv rfl rfl) (ViewL.eqv ?_ rfl); simp_all [bne, eRb]; done)
theorem ref21_row (s : Str) (b : Bool) (hs : s.length ≤ 2 ^ 30) : CallM Tryz.prog n_ref21_reader_row 0 [] (eRb s b) (eRb (ordR (some 6) s b).2.1 (ordR (some 6) s b).2.2) (eVals (ordR (some 6) s b).1) := by
  have c := ref12_TakeRow s 6 hs
  unfold ordR
  dsimp only
  generalize takeR s 6 = t at *
  obtain ⟨n, r, e⟩ := t
  simp only [eVsS, eVals] at c ⊢
  refine CallM.of_one (of_ref21_reader_row (by simp) ?_) rfl (purL_rb _ _)
  unfold b_ref21_reader_row WpR
  intro Q hQr hQn hQp
  cases b <;> simp only [eRb]
  all_goals
    repeat' first | refine go_ ?_ | refine cf_ c ?_ | refine br_ (fun hw => ?_) (fun hw => ?_) <;> try omega | fail
  all_goals first | exact ab_ | (refine leafS (View.eqv rfl (by simp)) (ViewL.eqv ?_ rfl); simp [eRb]; done) | (refine leafS (View.eqv rfl (by simp)) (ViewL.eqv ?_ rfl); simp_all [bne, eRb]; done)
theorem numR_len (s : Str) (b : Bool) : (numR s b).2.1.length ≤ s.length ∧ ((numR s b).2.2 = false → (numR s b).2.1.length < s.length) := by
  have h := takeN_len s
  refine ⟨h.1, fun h0 => h.2.1 ?_⟩
  unfold numR at h0
  simp only [Bool.or_eq_false_iff, bne_eq_false_iff_eq] at h0
  exact h0.2
theorem ordR_len (s : Str) (b : Bool) : (ordR (some 6) s b).2.1.length ≤ s.length ∧ ((ordR (some 6) s b).2.2 = false → (ordR (some 6) s b).2.1.length < s.length) := by
  have h := takeR_ok s 6
  refine ⟨h.1, fun h0 => takeR_lt s 6 ?_⟩
  unfold ordR at h0
  simp only [Bool.or_eq_false_iff, bne_eq_false_iff_eq] at h0
  exact h0.2
def iv (out : List Int) : AV := if out = [] then .nils else .own E1 3 out.length 0 out.length
def ivO (out : List Int) : Store := if out = [] then [] else [.vec E1 (out.map eInt)]
theorem iv_nil : iv [] = .nils := rfl
theorem ivO_nil : ivO [] = [] := rfl
theorem iv_cons (a : Int) (l : List Int) : iv (a :: l) = .own E1 3 (l.length + 1) 0 (l.length + 1) := rfl
theorem ivO_cons (a : Int) (l : List Int) : ivO (a :: l) = [.vec E1 ((a :: l).map eInt)] := rfl
theorem iv_ne {l : List Int} (h : l ≠ []) : iv l = .own E1 3 l.length 0 l.length := by unfold iv; rw [if_neg h]
theorem ivO_ne {l : List Int} (h : l ≠ []) : ivO l = [.vec E1 (l.map eInt)] := by unfold ivO; rw [if_neg h]
def rw_ (p : Nat) (out : List (List Val)) : AV := if out = [] then .nils else .own E1 p out.length 0 out.length
def rwO (out : List (List Val)) : Store := if out = [] then [] else [.vec E1 (out.map eVals)]
theorem rw_nil (p : Nat) : rw_ p [] = .nils := rfl
theorem rwO_nil : rwO [] = [] := rfl
theorem rw_cons (p : Nat) (a : List Val) (l : List (List Val)) : rw_ p (a :: l) = .own E1 p (l.length + 1) 0 (l.length + 1) := rfl
theorem rwO_cons (a : List Val) (l : List (List Val)) : rwO (a :: l) = [.vec E1 ((a :: l).map eVals)] := rfl
theorem rw_ne {p : Nat} {l : List (List Val)} (h : l ≠ []) : rw_ p l = .own E1 p l.length 0 l.length := by unfold rw_; rw [if_neg h]
theorem rwO_ne {l : List (List Val)} (h : l ≠ []) : rwO l = [.vec E1 (l.map eVals)] := by unfold rwO; rw [if_neg h]
abbrev o0E : AObj := .cells [.str [], I 0, .nils, I 0, .nils, .nils]
theorem parseR_no {s : Str} (h : (readE s).2.2 = true ∨ (bytesE (readE s).1).2 ≠ 0 ∨ (bytesE (readE s).1).1 ≠ s) : parseE s = (ent0, 4) := by
  unfold parseE
  rw [if_pos]
  rcases h with h | h | h
  · exact .inl h
  · exact .inr fun e => h (by rw [e])
  · exact .inr fun e => h (by rw [e])
theorem parseR_yes {s : Str} (h1 : (readE s).2.2 = false) (h2 : (bytesE (readE s).1).2 = 0) (h3 : (bytesE (readE s).1).1 = s) : parseE s = ((readE s).1, 0) := by
  unfold parseE
  rw [if_neg]
  rintro (h | h)
  · rw [h1] at h; cases h
  · exact h (Prod.ext h3 h2)
set_option maxHeartbeats 8000000 in
theorem ref21_Parse (s : Str) (hs : s.length ≤ 2 ^ 20) : CallF Tryz.prog n_ref21_Parse [.str s] (eEP (parseE s)) := by
  have ok := readE_ok hs
  have cB := ref21_Bytes (readE s).1 ok
  have hn := @parseR_no s
  have hy := @parseR_yes s
  obtain ⟨E, hE⟩ : ∃ E, parseE s = E := ⟨_, rfl⟩
  rw [hE] at hn hy ⊢
  clear hE ok
  have h0 : textR s false = ((takeT s 1400).1, (takeT s 1400).2.1, (takeT s 1400).2.2 != 0) := by unfold textR; simp
  unfold readE at cB hn hy
  rw [h0] at cB hn hy
  clear h0
  have c0 := ref01_TakeText s 1400 (by omega)
  have l0 := (takeT_len s 1400).2.1
  generalize takeT s 1400 = t at *
  obtain ⟨A, s1, e1⟩ := t
  dsimp only at cB hn hy l0
  obtain ⟨b1, hb1⟩ : ∃ b, (e1 != 0) = b := ⟨_, rfl⟩
  have hb1' : (!e1 == 0) = b1 := hb1
  have hb2 : (!decide (e1 = 0)) = b1 := by rw [← hb1]; by_cases h : e1 = 0 <;> simp [h]
  rw [hb1] at cB hn hy
  have c1 := ref21_num s1 b1 (by omega)
  have l1 := (numR_len s1 b1).1
  generalize numR s1 b1 = t at *
  obtain ⟨B, s2, b2⟩ := t
  dsimp only at cB hn hy l1
  have c2 := ref21_row s2 b2 (by omega)
  have l2 := (ordR_len s2 b2).1
  generalize ordR (some 6) s2 b2 = t at *
  obtain ⟨C, s3, b3⟩ := t
  dsimp only at cB hn hy l2
  have c3 := ref21_num s3 b3 (by omega)
  have l3 := (numR_len s3 b3).1
  generalize numR s3 b3 = t at *
  obtain ⟨D, s4, b4⟩ := t
  dsimp only at cB hn hy l3
  unfold entNums at cB hn hy
  have c4 := ref21_num s4 b4 (by omega)
  have l4 := (numR_len s4 b4).1
  generalize numR s4 b4 = t at *
  obtain ⟨n1, s5, b5⟩ := t
  dsimp only at cB hn hy l4 c4
  obtain ⟨R, hR⟩ : ∃ R, numsR n1.toNat [] s5 b5 = R := ⟨_, rfl⟩
  rw [hR] at cB hn hy
  unfold entRows at cB hn hy
  simp only [eS, eRb, eVals] at c0 c1 c2 c3 c4
  refine CallF.of_nil (of_ref21_Parse (by simp) ?_) (by simp [eEP])
  unfold b_ref21_Parse WpR
  intro Q hQr hQn hQp
  repeat' first | simp (disch := omega) only [go_sem, hQr, hQn, hQp, wrapK_i64, wrapK_u8, wrapK_u64, Nat.reduceAdd, Nat.reduceBEq, ↓reduceIte, hb1, hb1', hb2] | refine go_ ?_ | refine cf_ c0 ?_ | refine cm_ c1 ?_ | refine cm_ c2 ?_ | refine cm_ c3 ?_ | refine cm_ c4 ?_ | refine br_ (fun hw => ?_) (fun hw => ?_) <;> try omega | fail
  with_reducible refine loop_i [10, 40, 41, 42, 43, 44, 45, 46, 47, 48, 49, 50, 51, 52, 53, 54, 55, 56, 57, 58, 59, 60, 61, 62] (fun q : List Int × Str × Bool => []) (fun q => o0E :: .cells [.str q.2.1, .bool q.2.2] :: .cells [.str A, I B, .lst false EV (C.map eVal), I D, iv q.1, .nils] :: ivO q.1) (fun q => q.1.length + q.2.1.length + (if q.2.2 then 0 else 1) ≤ 2 ^ 20 + 1 ∧ R = numsR (n1.toNat - q.1.length) q.1 q.2.1 q.2.2) (fun q => n1.toNat - q.1.length) (([], s5, b5)) ?_ ?_ ?_ ?_
  · refine ⟨?_, by simpa using hR.symm⟩
    dsimp only; split <;> simp <;> omega
  · rfl
  · exact at_
  rintro ⟨out, s6, b6⟩ u ⟨g1, g2⟩
  dsimp only at g1 g2
  by_cases hgo : (out.length : Int) < n1 ∧ b6 = false
  · obtain ⟨hlt, rfl⟩ := hgo
    obtain ⟨j, hj⟩ : ∃ j, n1.toNat - out.length = j + 1 := ⟨n1.toNat - out.length - 1, by omega⟩
    rw [hj, numsR, if_neg (by simp)] at g2
    simp only [Bool.false_eq_true, if_false] at g1
    have d1 := ref21_num s6 false (by omega)
    have hl := numR_len s6 false
    generalize numR s6 false = t at *
    obtain ⟨x, s7, b7⟩ := t
    dsimp only at g2 hl d1
    simp only [eRb] at d1
    have hb : (out ++ [x]).length + s7.length + (if b7 then 0 else 1) ≤ 2 ^ 20 + 1 := by
      rw [List.length_append, List.length_singleton]
      cases b7 with
      | true => simp; omega
      | false => have := hl.2 rfl; simp; omega
    have e : n1.toNat - (out ++ [x]).length = j := by simp; omega
    by_cases hout : out = []
    · subst hout
      simp only [iv_nil, ivO_nil]
      repeat' first | refine go_ ?_ | refine cm_ d1 ?_ | refine br_ (fun hw => ?_) (fun hw => ?_) <;> try omega | fail
      all_goals first | exact ab_ | skip
      refine ⟨([] ++ [x], s7, b7), ?_, ?_, ?_, ou_, at_⟩
      · dsimp only; rw [e]; exact ⟨hb, g2⟩
      · dsimp only; simp only [List.length_append, List.length_singleton]; omega
      · simp only [List.nil_append, iv_cons, ivO_cons, List.map_cons, List.map_nil, List.length_nil, eInt] <;> first | rfl | (simp [go_sem]; done)
    · rw [iv_ne hout, ivO_ne hout]
      repeat' first | refine go_ ?_ | refine cm_ d1 ?_ | refine br_ (fun hw => ?_) (fun hw => ?_) <;> try omega | fail
      all_goals first | exact ab_ | skip
      refine ⟨(out ++ [x], s7, b7), ?_, ?_, ?_, ou_, at_⟩
      · dsimp only; rw [e]; exact ⟨hb, g2⟩
      · dsimp only; simp only [List.length_append, List.length_singleton]; omega
      · simp only [iv_ne (show out ++ [x] ≠ [] by simp), ivO_ne (show out ++ [x] ≠ [] by simp), List.length_append, List.length_singleton] <;> first | rfl | (simp [go_sem]; done)
  · have hE2 : R = (out, s6, b6) := by
      rw [g2]
      cases hk : n1.toNat - out.length with
      | zero => rw [numsR]
      | succ j =>
        rw [numsR, if_pos]
        cases b6 with
        | true => rfl
        | false => exact absurd ⟨by omega, rfl⟩ hgo
    subst hE2
    dsimp only at cB hn hy
    have d4 := ref21_num s6 b6 (by split at g1 <;> omega)
    have m4 := (numR_len s6 b6).1
    have m5 : s6.length ≤ 2 ^ 20 + 1 := by split at g1 <;> omega
    clear g1 g2 hR c0 c1 c2 c3 c4
    generalize numR s6 b6 = t at *
    obtain ⟨n2, s7, b7⟩ := t
    dsimp only at cB hn hy d4 m4
    obtain ⟨S, hS⟩ : ∃ R, rowsR n2.toNat [] s7 b7 = R := ⟨_, rfl⟩
    rw [hS] at cB hn hy
    simp only [eRb] at d4
    have hge : b6 = false → decide ((out.length : Int) < n1) = false := fun h => decide_eq_false fun h' => hgo ⟨h', h⟩
    by_cases hout : out = []
    · subst hout
      simp only [iv_nil, ivO_nil, List.length_nil] at hge ⊢
      cases b6
      · replace hge := hge rfl
        repeat' first | simp (disch := omega) only [go_sem, hQr, hQn, hQp, wrapK_i64, wrapK_u8, wrapK_u64, Nat.reduceAdd, Nat.reduceBEq, ↓reduceIte, hge] | refine go_ ?_ | refine cm_ d4 ?_ | refine br_ (fun hw => ?_) (fun hw => ?_) <;> try omega | fail
        all_goals first | exact ab_ | skip
        with_reducible refine loop_i [12, 65, 66, 67, 68, 69, 70, 71, 72, 73, 74, 75, 76, 77, 78, 79, 80, 81, 82, 83, 84, 85, 86, 87] (fun q : List (List Val) × Str × Bool => []) (fun q => o0E :: .cells [.str q.2.1, .bool q.2.2] :: .cells [.str A, I B, .lst false EV (C.map eVal), I D, .nils, rw_ 3 q.1] :: rwO q.1) (fun q => q.1.length + q.2.1.length + (if q.2.2 then 0 else 1) ≤ 2 ^ 20 + 2 ∧ S = rowsR (n2.toNat - q.1.length) q.1 q.2.1 q.2.2) (fun q => n2.toNat - q.1.length) (([], s7, b7)) ?_ ?_ ?_ ?_
        · refine ⟨?_, by simpa using hS.symm⟩
          dsimp only; split <;> simp <;> omega
        · rfl
        · exact at_
        rintro ⟨rs, s8, b8⟩ u2 ⟨f1, f2⟩
        dsimp only at f1 f2
        by_cases hgo2 : (rs.length : Int) < n2 ∧ b8 = false
        · obtain ⟨hlt2, rfl⟩ := hgo2
          obtain ⟨j, hj⟩ : ∃ j, n2.toNat - rs.length = j + 1 := ⟨n2.toNat - rs.length - 1, by omega⟩
          rw [hj, rowsR, if_neg (by simp)] at f2
          simp only [Bool.false_eq_true, if_false] at f1
          have d5 := ref21_row s8 false (by omega)
          have hl := ordR_len s8 false
          generalize ordR (some 6) s8 false = t at *
          obtain ⟨x, s9, b9⟩ := t
          dsimp only at f2 hl d5
          simp only [eRb, eVals] at d5
          have hb : (rs ++ [x]).length + s9.length + (if b9 then 0 else 1) ≤ 2 ^ 20 + 2 := by
            rw [List.length_append, List.length_singleton]
            cases b9 with
            | true => simp; omega
            | false => have := hl.2 rfl; simp; omega
          have e : n2.toNat - (rs ++ [x]).length = j := by simp; omega
          by_cases hrs : rs = []
          · subst hrs
            simp only [rw_nil, rwO_nil]
            repeat' first | refine go_ ?_ | refine cm_ d5 ?_ | refine br_ (fun hw => ?_) (fun hw => ?_) <;> try omega | fail
            all_goals first | exact ab_ | skip
            refine ⟨([] ++ [x], s9, b9), ?_, ?_, ?_, ou_, at_⟩
            · dsimp only; rw [e]; exact ⟨hb, f2⟩
            · dsimp only; simp only [List.length_append, List.length_singleton]; omega
            · simp only [List.nil_append, rw_cons, rwO_cons, List.map_cons, List.map_nil, List.length_nil, eVals] <;> first | rfl | (simp [go_sem]; done)
          · rw [rw_ne hrs, rwO_ne hrs]
            repeat' first | refine go_ ?_ | refine cm_ d5 ?_ | refine br_ (fun hw => ?_) (fun hw => ?_) <;> try omega | fail
            all_goals first | exact ab_ | skip
            refine ⟨(rs ++ [x], s9, b9), ?_, ?_, ?_, ou_, at_⟩
            · dsimp only; rw [e]; exact ⟨hb, f2⟩
            · dsimp only; simp only [List.length_append, List.length_singleton]; omega
            · simp only [rw_ne (show rs ++ [x] ≠ [] by simp), rwO_ne (show rs ++ [x] ≠ [] by simp), List.length_append, List.length_singleton] <;> first | rfl | (simp [go_sem, eVals]; done)
        · have hS2 : S = (rs, s8, b8) := by
            rw [f2]
            cases hk : n2.toNat - rs.length with
            | zero => rw [rowsR]
            | succ j =>
              rw [rowsR, if_pos]
              cases b8 with
              | true => rfl
              | false => exact absurd ⟨by omega, rfl⟩ hgo2
          subst hS2
          dsimp only at cB hn hy
          clear f1 f2 hS d4 m4 m5
          generalize bytesE ⟨A, B, C, D, [], rs⟩ = b at *
          obtain ⟨bs, be⟩ := b
          simp only [eBE, eEnt, cEnt, eInts, eVals, eRows] at cB
          have hge2 : b8 = false → decide ((rs.length : Int) < n2) = false := fun h => decide_eq_false fun h' => hgo2 ⟨h', h⟩
          by_cases hrs : rs = []
          · subst hrs
            simp only [rw_nil, rwO_nil, List.length_nil] at hge2 ⊢
            cases b8
            · replace hge2 := hge2 rfl
              repeat' first | simp (disch := omega) only [go_sem, hQr, hQn, hQp, wrapK_i64, wrapK_u8, wrapK_u64, Nat.reduceAdd, Nat.reduceBEq, ↓reduceIte, hge2] | refine go_ ?_ | refine cv_ cB ?_ | refine br_ (fun hw => ?_) (fun hw => ?_) <;> try omega | fail
              all_goals first
                | exact ab_
                | (refine leafN ?_; rw [hn (by first | exact .inl (by assumption) | exact .inr (.inl (by assumption)) | exact .inr (.inr (by assumption)))]; exact vw_)
                | (refine leafN ?_; rw [hy (by first | rfl | assumption) (by assumption) (by assumption)]; exact vw_)
                | trace_state
            · clear hge2
              repeat' first | refine go_ ?_ | refine cv_ cB ?_ | refine br_ (fun hw => ?_) (fun hw => ?_) <;> try omega | fail
              all_goals first
                | exact ab_
                | (refine leafN ?_; rw [hn (.inl rfl)]; exact vw_)
                | trace_state
          · rw [rw_ne hrs, rwO_ne hrs]
            cases b8
            · replace hge2 := hge2 rfl
              repeat' first | simp (disch := omega) only [go_sem, hQr, hQn, hQp, wrapK_i64, wrapK_u8, wrapK_u64, Nat.reduceAdd, Nat.reduceBEq, ↓reduceIte, hge2] | refine go_ ?_ | refine cv_ cB ?_ | refine br_ (fun hw => ?_) (fun hw => ?_) <;> try omega | fail
              all_goals first
                | exact ab_
                | (refine leafN ?_; rw [hn (by first | exact .inl (by assumption) | exact .inr (.inl (by assumption)) | exact .inr (.inr (by assumption)))]; exact vw_)
                | (refine leafN ?_; rw [hy (by first | rfl | assumption) (by assumption) (by assumption)]; exact vw_)
                | trace_state
            · clear hge2
              repeat' first | refine go_ ?_ | refine cv_ cB ?_ | refine br_ (fun hw => ?_) (fun hw => ?_) <;> try omega | fail
              all_goals first
                | exact ab_
                | (refine leafN ?_; rw [hn (.inl rfl)]; exact vw_)
                | trace_state
      · clear hge
        repeat' first | refine go_ ?_ | refine cm_ d4 ?_ | refine br_ (fun hw => ?_) (fun hw => ?_) <;> try omega | fail
        all_goals first | exact ab_ | skip
        all_goals
          with_reducible refine loop_i [12, 65, 66, 67, 68, 69, 70, 71, 72, 73, 74, 75, 76, 77, 78, 79, 80, 81, 82, 83, 84, 85, 86, 87] (fun q : List (List Val) × Str × Bool => []) (fun q => o0E :: .cells [.str q.2.1, .bool q.2.2] :: .cells [.str A, I B, .lst false EV (C.map eVal), I D, .nils, rw_ 3 q.1] :: rwO q.1) (fun q => q.1.length + q.2.1.length + (if q.2.2 then 0 else 1) ≤ 2 ^ 20 + 2 ∧ S = rowsR (n2.toNat - q.1.length) q.1 q.2.1 q.2.2) (fun q => n2.toNat - q.1.length) (([], s7, b7)) ?_ ?_ ?_ ?_
          · refine ⟨?_, by simpa using hS.symm⟩
            dsimp only; split <;> simp <;> omega
          · rfl
          · exact at_
          rintro ⟨rs, s8, b8⟩ u2 ⟨f1, f2⟩
          dsimp only at f1 f2
          by_cases hgo2 : (rs.length : Int) < n2 ∧ b8 = false
          · obtain ⟨hlt2, rfl⟩ := hgo2
            obtain ⟨j, hj⟩ : ∃ j, n2.toNat - rs.length = j + 1 := ⟨n2.toNat - rs.length - 1, by omega⟩
            rw [hj, rowsR, if_neg (by simp)] at f2
            simp only [Bool.false_eq_true, if_false] at f1
            have d5 := ref21_row s8 false (by omega)
            have hl := ordR_len s8 false
            generalize ordR (some 6) s8 false = t at *
            obtain ⟨x, s9, b9⟩ := t
            dsimp only at f2 hl d5
            simp only [eRb, eVals] at d5
            have hb : (rs ++ [x]).length + s9.length + (if b9 then 0 else 1) ≤ 2 ^ 20 + 2 := by
              rw [List.length_append, List.length_singleton]
              cases b9 with
              | true => simp; omega
              | false => have := hl.2 rfl; simp; omega
            have e : n2.toNat - (rs ++ [x]).length = j := by simp; omega
            by_cases hrs : rs = []
            · subst hrs
              simp only [rw_nil, rwO_nil]
              repeat' first | refine go_ ?_ | refine cm_ d5 ?_ | refine br_ (fun hw => ?_) (fun hw => ?_) <;> try omega | fail
              all_goals first | exact ab_ | skip
              refine ⟨([] ++ [x], s9, b9), ?_, ?_, ?_, ou_, at_⟩
              · dsimp only; rw [e]; exact ⟨hb, f2⟩
              · dsimp only; simp only [List.length_append, List.length_singleton]; omega
              · simp only [List.nil_append, rw_cons, rwO_cons, List.map_cons, List.map_nil, List.length_nil, eVals] <;> first | rfl | (simp [go_sem]; done)
            · rw [rw_ne hrs, rwO_ne hrs]
              repeat' first | refine go_ ?_ | refine cm_ d5 ?_ | refine br_ (fun hw => ?_) (fun hw => ?_) <;> try omega | fail
              all_goals first | exact ab_ | skip
              refine ⟨(rs ++ [x], s9, b9), ?_, ?_, ?_, ou_, at_⟩
              · dsimp only; rw [e]; exact ⟨hb, f2⟩
              · dsimp only; simp only [List.length_append, List.length_singleton]; omega
              · simp only [rw_ne (show rs ++ [x] ≠ [] by simp), rwO_ne (show rs ++ [x] ≠ [] by simp), List.length_append, List.length_singleton] <;> first | rfl | (simp [go_sem, eVals]; done)
          · have hS2 : S = (rs, s8, b8) := by
              rw [f2]
              cases hk : n2.toNat - rs.length with
              | zero => rw [rowsR]
              | succ j =>
                rw [rowsR, if_pos]
                cases b8 with
                | true => rfl
                | false => exact absurd ⟨by omega, rfl⟩ hgo2
            subst hS2
            dsimp only at cB hn hy
            clear f1 f2 hS d4 m4 m5
            generalize bytesE ⟨A, B, C, D, [], rs⟩ = b at *
            obtain ⟨bs, be⟩ := b
            simp only [eBE, eEnt, cEnt, eInts, eVals, eRows] at cB
            have hge2 : b8 = false → decide ((rs.length : Int) < n2) = false := fun h => decide_eq_false fun h' => hgo2 ⟨h', h⟩
            by_cases hrs : rs = []
            · subst hrs
              simp only [rw_nil, rwO_nil, List.length_nil] at hge2 ⊢
              cases b8
              · replace hge2 := hge2 rfl
                repeat' first | simp (disch := omega) only [go_sem, hQr, hQn, hQp, wrapK_i64, wrapK_u8, wrapK_u64, Nat.reduceAdd, Nat.reduceBEq, ↓reduceIte, hge2] | refine go_ ?_ | refine cv_ cB ?_ | refine br_ (fun hw => ?_) (fun hw => ?_) <;> try omega | fail
                all_goals first
                  | exact ab_
                  | (refine leafN ?_; rw [hn (by first | exact .inl (by assumption) | exact .inr (.inl (by assumption)) | exact .inr (.inr (by assumption)))]; exact vw_)
                  | (refine leafN ?_; rw [hy (by first | rfl | assumption) (by assumption) (by assumption)]; exact vw_)
                  | trace_state
              · clear hge2
                repeat' first | refine go_ ?_ | refine cv_ cB ?_ | refine br_ (fun hw => ?_) (fun hw => ?_) <;> try omega | fail
                all_goals first
                  | exact ab_
                  | (refine leafN ?_; rw [hn (.inl rfl)]; exact vw_)
                  | trace_state
            · rw [rw_ne hrs, rwO_ne hrs]
              cases b8
              · replace hge2 := hge2 rfl
                repeat' first | simp (disch := omega) only [go_sem, hQr, hQn, hQp, wrapK_i64, wrapK_u8, wrapK_u64, Nat.reduceAdd, Nat.reduceBEq, ↓reduceIte, hge2] | refine go_ ?_ | refine cv_ cB ?_ | refine br_ (fun hw => ?_) (fun hw => ?_) <;> try omega | fail
                all_goals first
                  | exact ab_
                  | (refine leafN ?_; rw [hn (by first | exact .inl (by assumption) | exact .inr (.inl (by assumption)) | exact .inr (.inr (by assumption)))]; exact vw_)
                  | (refine leafN ?_; rw [hy (by first | rfl | assumption) (by assumption) (by assumption)]; exact vw_)
                  | trace_state
              · clear hge2
                repeat' first | refine go_ ?_ | refine cv_ cB ?_ | refine br_ (fun hw => ?_) (fun hw => ?_) <;> try omega | fail
                all_goals first
                  | exact ab_
                  | (refine leafN ?_; rw [hn (.inl rfl)]; exact vw_)
                  | trace_state
    · rw [iv_ne hout, ivO_ne hout]
      cases b6
      · replace hge := hge rfl
        repeat' first | simp (disch := omega) only [go_sem, hQr, hQn, hQp, wrapK_i64, wrapK_u8, wrapK_u64, Nat.reduceAdd, Nat.reduceBEq, ↓reduceIte, hge] | refine go_ ?_ | refine cm_ d4 ?_ | refine br_ (fun hw => ?_) (fun hw => ?_) <;> try omega | fail
        all_goals first | exact ab_ | skip
        with_reducible refine loop_i [12, 65, 66, 67, 68, 69, 70, 71, 72, 73, 74, 75, 76, 77, 78, 79, 80, 81, 82, 83, 84, 85, 86, 87] (fun q : List (List Val) × Str × Bool => []) (fun q => o0E :: .cells [.str q.2.1, .bool q.2.2] :: .cells [.str A, I B, .lst false EV (C.map eVal), I D, (.own E1 3 out.length 0 out.length), rw_ 4 q.1] :: .vec E1 (out.map eInt) :: rwO q.1) (fun q => q.1.length + q.2.1.length + (if q.2.2 then 0 else 1) ≤ 2 ^ 20 + 2 ∧ S = rowsR (n2.toNat - q.1.length) q.1 q.2.1 q.2.2) (fun q => n2.toNat - q.1.length) (([], s7, b7)) ?_ ?_ ?_ ?_
        · refine ⟨?_, by simpa using hS.symm⟩
          dsimp only; split <;> simp <;> omega
        · rfl
        · exact at_
        rintro ⟨rs, s8, b8⟩ u2 ⟨f1, f2⟩
        dsimp only at f1 f2
        by_cases hgo2 : (rs.length : Int) < n2 ∧ b8 = false
        · obtain ⟨hlt2, rfl⟩ := hgo2
          obtain ⟨j, hj⟩ : ∃ j, n2.toNat - rs.length = j + 1 := ⟨n2.toNat - rs.length - 1, by omega⟩
          rw [hj, rowsR, if_neg (by simp)] at f2
          simp only [Bool.false_eq_true, if_false] at f1
          have d5 := ref21_row s8 false (by omega)
          have hl := ordR_len s8 false
          generalize ordR (some 6) s8 false = t at *
          obtain ⟨x, s9, b9⟩ := t
          dsimp only at f2 hl d5
          simp only [eRb, eVals] at d5
          have hb : (rs ++ [x]).length + s9.length + (if b9 then 0 else 1) ≤ 2 ^ 20 + 2 := by
            rw [List.length_append, List.length_singleton]
            cases b9 with
            | true => simp; omega
            | false => have := hl.2 rfl; simp; omega
          have e : n2.toNat - (rs ++ [x]).length = j := by simp; omega
          by_cases hrs : rs = []
          · subst hrs
            simp only [rw_nil, rwO_nil]
            repeat' first | refine go_ ?_ | refine cm_ d5 ?_ | refine br_ (fun hw => ?_) (fun hw => ?_) <;> try omega | fail
            all_goals first | exact ab_ | skip
            refine ⟨([] ++ [x], s9, b9), ?_, ?_, ?_, ou_, at_⟩
            · dsimp only; rw [e]; exact ⟨hb, f2⟩
            · dsimp only; simp only [List.length_append, List.length_singleton]; omega
            · simp only [List.nil_append, rw_cons, rwO_cons, List.map_cons, List.map_nil, List.length_nil, eVals] <;> first | rfl | (simp [go_sem]; done)
          · rw [rw_ne hrs, rwO_ne hrs]
            repeat' first | refine go_ ?_ | refine cm_ d5 ?_ | refine br_ (fun hw => ?_) (fun hw => ?_) <;> try omega | fail
            all_goals first | exact ab_ | skip
            refine ⟨(rs ++ [x], s9, b9), ?_, ?_, ?_, ou_, at_⟩
            · dsimp only; rw [e]; exact ⟨hb, f2⟩
            · dsimp only; simp only [List.length_append, List.length_singleton]; omega
            · simp only [rw_ne (show rs ++ [x] ≠ [] by simp), rwO_ne (show rs ++ [x] ≠ [] by simp), List.length_append, List.length_singleton] <;> first | rfl | (simp [go_sem, eVals]; done)
        · have hS2 : S = (rs, s8, b8) := by
            rw [f2]
            cases hk : n2.toNat - rs.length with
            | zero => rw [rowsR]
            | succ j =>
              rw [rowsR, if_pos]
              cases b8 with
              | true => rfl
              | false => exact absurd ⟨by omega, rfl⟩ hgo2
          subst hS2
          dsimp only at cB hn hy
          clear f1 f2 hS d4 m4 m5
          generalize bytesE ⟨A, B, C, D, out, rs⟩ = b at *
          obtain ⟨bs, be⟩ := b
          simp only [eBE, eEnt, cEnt, eInts, eVals, eRows] at cB
          have hge2 : b8 = false → decide ((rs.length : Int) < n2) = false := fun h => decide_eq_false fun h' => hgo2 ⟨h', h⟩
          by_cases hrs : rs = []
          · subst hrs
            simp only [rw_nil, rwO_nil, List.length_nil] at hge2 ⊢
            cases b8
            · replace hge2 := hge2 rfl
              repeat' first | simp (disch := omega) only [go_sem, hQr, hQn, hQp, wrapK_i64, wrapK_u8, wrapK_u64, Nat.reduceAdd, Nat.reduceBEq, ↓reduceIte, hge2] | refine go_ ?_ | refine cv_ cB ?_ | refine br_ (fun hw => ?_) (fun hw => ?_) <;> try omega | fail
              all_goals first
                | exact ab_
                | (refine leafN ?_; rw [hn (by first | exact .inl (by assumption) | exact .inr (.inl (by assumption)) | exact .inr (.inr (by assumption)))]; exact vw_)
                | (refine leafN ?_; rw [hy (by first | rfl | assumption) (by assumption) (by assumption)]; exact vw_)
                | trace_state
            · clear hge2
              repeat' first | refine go_ ?_ | refine cv_ cB ?_ | refine br_ (fun hw => ?_) (fun hw => ?_) <;> try omega | fail
              all_goals first
                | exact ab_
                | (refine leafN ?_; rw [hn (.inl rfl)]; exact vw_)
                | trace_state
          · rw [rw_ne hrs, rwO_ne hrs]
            cases b8
            · replace hge2 := hge2 rfl
              repeat' first | simp (disch := omega) only [go_sem, hQr, hQn, hQp, wrapK_i64, wrapK_u8, wrapK_u64, Nat.reduceAdd, Nat.reduceBEq, ↓reduceIte, hge2] | refine go_ ?_ | refine cv_ cB ?_ | refine br_ (fun hw => ?_) (fun hw => ?_) <;> try omega | fail
              all_goals first
                | exact ab_
                | (refine leafN ?_; rw [hn (by first | exact .inl (by assumption) | exact .inr (.inl (by assumption)) | exact .inr (.inr (by assumption)))]; exact vw_)
                | (refine leafN ?_; rw [hy (by first | rfl | assumption) (by assumption) (by assumption)]; exact vw_)
                | trace_state
            · clear hge2
              repeat' first | refine go_ ?_ | refine cv_ cB ?_ | refine br_ (fun hw => ?_) (fun hw => ?_) <;> try omega | fail
              all_goals first
                | exact ab_
                | (refine leafN ?_; rw [hn (.inl rfl)]; exact vw_)
                | trace_state
      · clear hge
        repeat' first | refine go_ ?_ | refine cm_ d4 ?_ | refine br_ (fun hw => ?_) (fun hw => ?_) <;> try omega | fail
        all_goals first | exact ab_ | skip
        all_goals
          with_reducible refine loop_i [12, 65, 66, 67, 68, 69, 70, 71, 72, 73, 74, 75, 76, 77, 78, 79, 80, 81, 82, 83, 84, 85, 86, 87] (fun q : List (List Val) × Str × Bool => []) (fun q => o0E :: .cells [.str q.2.1, .bool q.2.2] :: .cells [.str A, I B, .lst false EV (C.map eVal), I D, (.own E1 3 out.length 0 out.length), rw_ 4 q.1] :: .vec E1 (out.map eInt) :: rwO q.1) (fun q => q.1.length + q.2.1.length + (if q.2.2 then 0 else 1) ≤ 2 ^ 20 + 2 ∧ S = rowsR (n2.toNat - q.1.length) q.1 q.2.1 q.2.2) (fun q => n2.toNat - q.1.length) (([], s7, b7)) ?_ ?_ ?_ ?_
          · refine ⟨?_, by simpa using hS.symm⟩
            dsimp only; split <;> simp <;> omega
          · rfl
          · exact at_
          rintro ⟨rs, s8, b8⟩ u2 ⟨f1, f2⟩
          dsimp only at f1 f2
          by_cases hgo2 : (rs.length : Int) < n2 ∧ b8 = false
          · obtain ⟨hlt2, rfl⟩ := hgo2
            obtain ⟨j, hj⟩ : ∃ j, n2.toNat - rs.length = j + 1 := ⟨n2.toNat - rs.length - 1, by omega⟩
            rw [hj, rowsR, if_neg (by simp)] at f2
            simp only [Bool.false_eq_true, if_false] at f1
            have d5 := ref21_row s8 false (by omega)
            have hl := ordR_len s8 false
            generalize ordR (some 6) s8 false = t at *
            obtain ⟨x, s9, b9⟩ := t
            dsimp only at f2 hl d5
            simp only [eRb, eVals] at d5
            have hb : (rs ++ [x]).length + s9.length + (if b9 then 0 else 1) ≤ 2 ^ 20 + 2 := by
              rw [List.length_append, List.length_singleton]
              cases b9 with
              | true => simp; omega
              | false => have := hl.2 rfl; simp; omega
            have e : n2.toNat - (rs ++ [x]).length = j := by simp; omega
            by_cases hrs : rs = []
            · subst hrs
              simp only [rw_nil, rwO_nil]
              repeat' first | refine go_ ?_ | refine cm_ d5 ?_ | refine br_ (fun hw => ?_) (fun hw => ?_) <;> try omega | fail
              all_goals first | exact ab_ | skip
              refine ⟨([] ++ [x], s9, b9), ?_, ?_, ?_, ou_, at_⟩
              · dsimp only; rw [e]; exact ⟨hb, f2⟩
              · dsimp only; simp only [List.length_append, List.length_singleton]; omega
              · simp only [List.nil_append, rw_cons, rwO_cons, List.map_cons, List.map_nil, List.length_nil, eVals] <;> first | rfl | (simp [go_sem]; done)
            · rw [rw_ne hrs, rwO_ne hrs]
              repeat' first | refine go_ ?_ | refine cm_ d5 ?_ | refine br_ (fun hw => ?_) (fun hw => ?_) <;> try omega | fail
              all_goals first | exact ab_ | skip
              refine ⟨(rs ++ [x], s9, b9), ?_, ?_, ?_, ou_, at_⟩
              · dsimp only; rw [e]; exact ⟨hb, f2⟩
              · dsimp only; simp only [List.length_append, List.length_singleton]; omega
              · simp only [rw_ne (show rs ++ [x] ≠ [] by simp), rwO_ne (show rs ++ [x] ≠ [] by simp), List.length_append, List.length_singleton] <;> first | rfl | (simp [go_sem, eVals]; done)
          · have hS2 : S = (rs, s8, b8) := by
              rw [f2]
              cases hk : n2.toNat - rs.length with
              | zero => rw [rowsR]
              | succ j =>
                rw [rowsR, if_pos]
                cases b8 with
                | true => rfl
                | false => exact absurd ⟨by omega, rfl⟩ hgo2
            subst hS2
            dsimp only at cB hn hy
            clear f1 f2 hS d4 m4 m5
            generalize bytesE ⟨A, B, C, D, out, rs⟩ = b at *
            obtain ⟨bs, be⟩ := b
            simp only [eBE, eEnt, cEnt, eInts, eVals, eRows] at cB
            have hge2 : b8 = false → decide ((rs.length : Int) < n2) = false := fun h => decide_eq_false fun h' => hgo2 ⟨h', h⟩
            by_cases hrs : rs = []
            · subst hrs
              simp only [rw_nil, rwO_nil, List.length_nil] at hge2 ⊢
              cases b8
              · replace hge2 := hge2 rfl
                repeat' first | simp (disch := omega) only [go_sem, hQr, hQn, hQp, wrapK_i64, wrapK_u8, wrapK_u64, Nat.reduceAdd, Nat.reduceBEq, ↓reduceIte, hge2] | refine go_ ?_ | refine cv_ cB ?_ | refine br_ (fun hw => ?_) (fun hw => ?_) <;> try omega | fail
                all_goals first
                  | exact ab_
                  | (refine leafN ?_; rw [hn (by first | exact .inl (by assumption) | exact .inr (.inl (by assumption)) | exact .inr (.inr (by assumption)))]; exact vw_)
                  | (refine leafN ?_; rw [hy (by first | rfl | assumption) (by assumption) (by assumption)]; exact vw_)
                  | trace_state
              · clear hge2
                repeat' first | refine go_ ?_ | refine cv_ cB ?_ | refine br_ (fun hw => ?_) (fun hw => ?_) <;> try omega | fail
                all_goals first
                  | exact ab_
                  | (refine leafN ?_; rw [hn (.inl rfl)]; exact vw_)
                  | trace_state
            · rw [rw_ne hrs, rwO_ne hrs]
              cases b8
              · replace hge2 := hge2 rfl
                repeat' first | simp (disch := omega) only [go_sem, hQr, hQn, hQp, wrapK_i64, wrapK_u8, wrapK_u64, Nat.reduceAdd, Nat.reduceBEq, ↓reduceIte, hge2] | refine go_ ?_ | refine cv_ cB ?_ | refine br_ (fun hw => ?_) (fun hw => ?_) <;> try omega | fail
                all_goals first
                  | exact ab_
                  | (refine leafN ?_; rw [hn (by first | exact .inl (by assumption) | exact .inr (.inl (by assumption)) | exact .inr (.inr (by assumption)))]; exact vw_)
                  | (refine leafN ?_; rw [hy (by first | rfl | assumption) (by assumption) (by assumption)]; exact vw_)
                  | trace_state
              · clear hge2
                repeat' first | refine go_ ?_ | refine cv_ cB ?_ | refine br_ (fun hw => ?_) (fun hw => ?_) <;> try omega | fail
                all_goals first
                  | exact ab_
                  | (refine leafN ?_; rw [hn (.inl rfl)]; exact vw_)
                  | trace_state
end Go.Proofs.YtmbgnaoilncbnaaGreat
