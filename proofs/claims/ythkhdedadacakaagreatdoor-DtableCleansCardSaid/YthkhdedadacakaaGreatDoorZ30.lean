/- Part of a proof: see Root. -/
import Derived.Test.YthkhdedadacakaaGreatDoorZ29
import Derived.WalkKit
import Derived.ProofKit
import Derived.OpenShut
import Derived.ReadAgain
import Derived.Deep.SlicePairs
set_option linter.unnecessarySimpa false
set_option linter.unusedSimpArgs false
set_option linter.unusedVariables false
namespace Go.Proofs.YthkhdedadacakaaGreatDoor
open Go.AM
set_option maxRecDepth 4000
set_option maxHeartbeats 8000000 in
theorem dtable_Clean (t : Table) (h : okTab t) : CallF Tryz.prog n_dtable_Clean [eTable t] (eT4 (cleanS t)) := by
  have cm := dtable_Make t h
  obtain ⟨E, hE⟩ : ∃ E, eT4 (cleanS t) = E := ⟨_, rfl⟩
  rw [hE]
  by_cases he : (makeS t).2.2.2 ≠ 0
  · have hc := cleanS_make he
    obtain ⟨M, hM⟩ : ∃ M, makeS t = M := ⟨_, rfl⟩
    rw [hM] at cm hc he
    simp only [eR4, eReady, eTable, cTable, eCols, eRules, eLines] at cm ⊢
    refine CallF.of_nil (of_dtable_Clean (by simp) ?_) (by simp)
    unfold b_dtable_Clean WpR
    intro Q hQr hQn hQp
    repeat' first | refine go_ ?_ | refine cf_ cm ?_ | refine br_ (fun hw => ?_) (fun hw => ?_) <;> try omega | fail
    all_goals first
      | exact ab_
      | (rw [← hE, hc]; exact leafN (view4 (view_t0 _)))
  have he0 : (makeS t).2.2.2 = 0 := by omega
  obtain ⟨hf, hl, hm⟩ := makeS_zero he0
  obtain ⟨hlen, hok⟩ := makeS_lines h he0
  have hcr := fun n => cleanS_row (t := t) he0 (n := n)
  have hco := cleanS_ok he0
  obtain ⟨ls, hls⟩ : ∃ ls, (makeS t).1.lines = ls := ⟨_, rfl⟩
  have hln : ∀ n, lineN t n = ls.getD n default := fun n => by rw [← hls]; rfl
  have hll : lineL t t.rules.length = ls := by rw [← hls, hm]
  rw [hls] at hlen hcr hco
  rw [hm, hll] at cm
  have hr30 := h.2.2.2.1
  have hi30 := h.2.1.1
  clear hm hll hl hf he0 hls he
  simp only [eR4, eReady, eTable, cTable, eCols, eRules, eLines] at cm ⊢
  refine CallF.of_nil (of_dtable_Clean (by simp) ?_) (by simp)
  unfold b_dtable_Clean WpR
  intro Q hQr hQn hQp
  repeat' first | refine go_ ?_ | refine cf_ cm ?_ | refine br_ (fun hw => ?_) (fun hw => ?_) <;> try omega | fail
  all_goals first | exact ab_ | skip
  with_reducible refine loop_i [7, 8, 9, 13, 14, 15, 16, 17, 18, 19, 20, 39, 40, 41, 42, 43, 44, 45, 46, 47, 48, 49, 50, 51, 52, 53, 54, 55, 56, 57, 58, 59, 60, 61, 62, 63, 64, 65, 66, 67, 68, 69, 70, 71, 72, 73, 74, 75, 76, 77, 78, 79, 80, 81, 82, 83, 84, 85, 86, 87, 88, 89, 90, 91, 92, 93, 94, 95, 96, 97, 98] (fun q : Nat × Store => [(39, I q.1), (9, I 0)]) (fun q => q.2) (fun q => q.1 ≤ ls.length ∧ (∀ k, k < q.1 → (rowN t k).2.2 = 0) ∧ 5 ≤ q.2.length ∧ q.2[0]? = some (oTab t (.lst false ER (t.rules.map eRule))) ∧ q.2[1]? = some (.cells [.str [], .nils, .nils, I 0, I 0, .nils]) ∧ q.2[2]? = some (oRdy t ls) ∧ (∃ v, q.2[3]? = some (oTab t v) ∧ RulV 5 q.2 v (rowsL t q.1)) ∧ ∃ a b, q.2[4]? = some (.cells [a, b])) (fun q => ls.length - q.1) (0, _) ⟨Nat.zero_le _, fun k hk => by omega, by simp, rfl, rfl, rfl, ⟨_, rfl, RulV.nil _ _⟩, _, _, rfl⟩ rfl ?_ ?_
  · exact at_
  rintro ⟨n, S⟩ rr ⟨h1, h2, h3, f0, f1, f2, ⟨v, f3, h4⟩, xa, xb, f4⟩
  dsimp only at h1 h2 h3 f0 f1 f2 f3 h4 f4
  have hvs := h4.scalar
  by_cases hn : n < ls.length
  · have hokl := hok n
    have hrow : rowN t n = rowS t.ins.length (lineN t n) := rfl
    have hcn := hcr n hn h2
    have hrl := rowsL_succ t n
    rw [hrow, rowS_1] at hrl
    rw [hrow] at hcn
    rw [hln] at hokl hcn hrl
    obtain ⟨l, hlN⟩ : ∃ l, ls.getD n default = l := ⟨_, rfl⟩
    rw [hlN] at hokl hcn hrl
    obtain ⟨⟨k1, k2⟩, k3, k4⟩ := hokl
    have f4a : ∀ d : AObj, (S ++ [d])[4]? = some (.cells [xa, xb]) := fun d => app_keep f4 d
    have hSl : (S ++ [AObj.cells [.lst false EC (l.cells.map eCell), .lst false EX (l.outs.map eExpr)]])[S.length]? = some (.cells [.lst false EC (l.cells.map eCell), .lst false EX (l.outs.map eExpr)]) := getElem?_last _ _
    have hSl2 : ∀ d : AObj, ((S ++ [AObj.cells [.lst false EC (l.cells.map eCell), .lst false EX (l.outs.map eExpr)]]).set 4 d)[S.length]? = some (.cells [.lst false EC (l.cells.map eCell), .lst false EX (l.outs.map eExpr)]) := fun d => set_keep hSl (by omega) d
    repeat' first | simp (disch := omega) only [go_sem, hQr, hQn, hQp, wrapK_i64, wrapK_u8, wrapK_u64, Nat.reduceAdd, Nat.reduceBEq, ↓reduceIte, f0, f1, f2, f3, f4, f4a, hSl2, hlN] | refine go_ ?_ | refine br_ (fun hw => ?_) (fun hw => ?_) <;> try omega | fail
    with_reducible refine loop_i [8, 9, 15, 16, 17, 49, 50, 51, 52, 53, 54, 55, 56, 57, 58, 59, 60, 61, 62, 63, 64, 65, 66] (fun q : Nat × Store => [(49, I q.1), (9, I 0)]) (fun q => q.2) (fun q => q.1 ≤ l.cells.length ∧ (∀ k, k < q.1 → (cellTx l k).2 = 0) ∧ S.length < q.2.length ∧ (∀ j o, S[j]? = some o → j ≠ 4 → q.2[j]? = some o) ∧ q.2[S.length]? = some (.cells [.lst false EC (l.cells.map eCell), .lst false EX (l.outs.map eExpr)]) ∧ ∃ x, q.2[4]? = some (.cells [x, .nils]) ∧ TxV (S.length + 1) q.2 x (cellsT l q.1)) (fun q => l.cells.length - q.1) (0, _) ⟨Nat.zero_le _, fun k hk => by omega, by simp, fun j o hj hne => set_keep (app_keep hj _) hne _, hSl2 _, .nils, List.getElem?_set_self (lt_of (f4a _)), TxV.nil _ _⟩ rfl ?_ ?_
    · exact at_
    rintro ⟨m, S1⟩ rr ⟨g1, g2, g3, g4, gl, x, g5, g6⟩
    dsimp only at g1 g2 g3 g4 gl g5 g6
    have e0 := g4 _ _ f0 (by omega)
    have e1 := g4 _ _ f1 (by omega)
    have e2 := g4 _ _ f2 (by omega)
    have e3 := g4 _ _ f3 (by omega)
    by_cases hml : m < l.cells.length
    · have cT : CallF Tryz.prog n_cell_Text [eCell (l.cells.getD m default)] (.tup [.str (cellTx l m).1, I (cellTx l m).2]) := cell_Text _ (k2 _ (getD_mem hml))
      have hsc := cellsT_succ l m
      have hlm := len_cellsT l m
      have hce := rowS_cell t.ins.length hml g2
      have hb2 := fun he => before_succ (q := fun j => (cellTx l j).2 = 0) g2 he
      obtain ⟨a, ha⟩ : ∃ a, cellTx l m = a := ⟨_, rfl⟩
      rw [ha] at cT hsc hce hb2
      obtain ⟨c, hc⟩ : ∃ c, l.cells.getD m default = c := ⟨_, rfl⟩
      rw [hc] at cT
      simp only [eCell, eTests] at cT
      obtain ⟨xs, hxs⟩ : ∃ xs, cellsT l m = xs := ⟨_, rfl⟩
      rw [hxs] at g6 hsc hlm
      rcases g6 with ⟨rfl, rfl⟩ | ⟨hne, q, hq, rfl, hqs⟩
      · repeat' first | simp (disch := omega) only [go_sem, hQr, hQn, hQp, wrapK_i64, wrapK_u8, wrapK_u64, Nat.reduceAdd, Nat.reduceBEq, ↓reduceIte, e0, e1, e2, e3, gl, g5, hlN, hc] | refine go_ ?_ | refine cf_ cT ?_ | with_reducible refine callL_any (put0n (app_keep g5 _) _ _) ?_ | refine br_ (fun hw => ?_) (fun hw => ?_) <;> try omega | fail
        rintro o s ⟨rfl, hsv⟩
        have y1 : s[1]? = some (.cells [.str [], .nils, .nils, I 0, I 0, .nils]) := by rw [hsv]; exact keep_first _ _ (app_keep e1 _) (by omega)
        have hs1 : ∀ d, (s.set 1 d)[1]? = some d := fun d => List.getElem?_set_self (lt_of y1)
        repeat' first | simp (disch := omega) only [go_sem, hQr, hQn, hQp, wrapK_i64, wrapK_u8, wrapK_u64, Nat.reduceAdd, Nat.reduceBEq, ↓reduceIte, y1, hs1] | refine go_ ?_ | refine br_ (fun hw => ?_) (fun hw => ?_) <;> try omega | fail
        · rw [hce (by assumption)] at hcn
          rw [← hE, hcn (by assumption)]
          exact leafN (view4 (view_t0 _))
        · have ha0 : a.2 = 0 := by assumption
          refine ⟨(m + 1, s), ⟨by omega, hb2 ha0, ?_, ?_, ?_, .own E1 (S1.length + 1) 1 0 1, ?_, ?_⟩, by dsimp only; omega, rfl, ou_, (by simp only [ha0]; simp (disch := omega) only [at_nil, at_cons, and_true, go_sem, hQr, hQn, hQp, wrapK_i64, wrapK_u8, wrapK_u64, Nat.reduceAdd, Nat.reduceBEq, ↓reduceIte, Int.natCast_add, Int.cast_ofNat_Int] <;> (try trivial) <;> (try omega) <;> (try (repeat (first | trivial | (refine And.intro ?_ ?_) | (congr 1; omega)))))⟩
          · dsimp only; rw [hsv]; simp; omega
          · intro j o hj hne; dsimp only; rw [hsv]; exact keep_first j o (app_keep (g4 _ _ hj hne) _) hne
          · dsimp only; rw [hsv]; exact keep_first _ _ (app_keep gl _) (by omega)
          · dsimp only; rw [hsv, List.getElem?_set_self (by simp; omega)]
          · dsimp only; rw [hsc, hsv]; have := tx_first (S1 := S1 ++ [AObj.cells [.bool c.any, .bool c.neg, .lst false ES (c.tests.map eTest)]]) (L := S.length + 1) (k := 4) (c := .cells [.own E1 (S1 ++ [AObj.cells [.bool c.any, .bool c.neg, .lst false ES (c.tests.map eTest)]]).length 1 0 1, .nils]) (s := a.1) (by simp; omega) (by simp; omega)
            simpa using this
      · have hqk : q ≠ 4 := by omega
        repeat' first | simp (disch := omega) only [go_sem, hQr, hQn, hQp, wrapK_i64, wrapK_u8, wrapK_u64, Nat.reduceAdd, Nat.reduceBEq, ↓reduceIte, e0, e1, e2, e3, gl, g5, hlN, hc] | refine go_ ?_ | refine cf_ cT ?_ | with_reducible refine callL_any (put0o (app_keep g5 _) (app_keep hqs _) hqk (by omega) _ _) ?_ | refine br_ (fun hw => ?_) (fun hw => ?_) <;> try omega | fail
        rintro o s ⟨rfl, hsv⟩
        have y1 : s[1]? = some (.cells [.str [], .nils, .nils, I 0, I 0, .nils]) := by rw [hsv]; exact keep_next _ _ (app_keep e1 _) (by omega) (by omega)
        have hs1 : ∀ d, (s.set 1 d)[1]? = some d := fun d => List.getElem?_set_self (lt_of y1)
        repeat' first | simp (disch := omega) only [go_sem, hQr, hQn, hQp, wrapK_i64, wrapK_u8, wrapK_u64, Nat.reduceAdd, Nat.reduceBEq, ↓reduceIte, y1, hs1] | refine go_ ?_ | refine br_ (fun hw => ?_) (fun hw => ?_) <;> try omega | fail
        · rw [hce (by assumption)] at hcn
          rw [← hE, hcn (by assumption)]
          exact leafN (view4 (view_t0 _))
        · have ha0 : a.2 = 0 := by assumption
          refine ⟨(m + 1, s), ⟨by omega, hb2 ha0, ?_, ?_, ?_, .own E1 q (xs.length + 1) 0 (xs.length + 1), ?_, ?_⟩, by dsimp only; omega, rfl, ou_, (by simp only [ha0]; simp (disch := omega) only [at_nil, at_cons, and_true, go_sem, hQr, hQn, hQp, wrapK_i64, wrapK_u8, wrapK_u64, Nat.reduceAdd, Nat.reduceBEq, ↓reduceIte, Int.natCast_add, Int.cast_ofNat_Int] <;> (try trivial) <;> (try omega) <;> (try (repeat (first | trivial | (refine And.intro ?_ ?_) | (congr 1; omega)))))⟩
          · dsimp only; rw [hsv]; simp; omega
          · intro j o hj hne; dsimp only; have := lt_of hj; rw [hsv]; exact keep_next j o (app_keep (g4 _ _ hj hne) _) hne (by omega)
          · dsimp only; rw [hsv]; exact keep_next _ _ (app_keep gl _) (by omega) (by omega)
          · dsimp only; rw [hsv, List.getElem?_set_self (by simp; omega)]
          · dsimp only; rw [hsc, hsv]; exact tx_next (app_keep hqs _) hq (Ne.symm hqk)
    · obtain rfl : m = l.cells.length := by omega
      have hco1 := fun {k : Nat} => rowS_out t.ins.length g2 (m := k)
      have hok1 := rowS_ok t.ins.length g2
      repeat' first | simp (disch := omega) only [go_sem, hQr, hQn, hQp, wrapK_i64, wrapK_u8, wrapK_u64, Nat.reduceAdd, Nat.reduceBEq, ↓reduceIte, e0, e1, e2, e3, gl, g5, hlN] | refine go_ ?_ | refine br_ (fun hw => ?_) (fun hw => ?_) <;> try omega | fail
      with_reducible refine loop_i [8, 9, 18, 19, 20, 70, 71, 72, 73, 74, 75, 76, 77, 78, 79, 80, 81, 82, 83, 84, 85, 86, 87, 88, 89, 90, 91] (fun q : Nat × Store => [(70, I q.1), (9, I 0)]) (fun q => q.2) (fun q => q.1 ≤ l.outs.length ∧ (∀ k, k < q.1 → (outTx l k).2 = 0) ∧ S1.length ≤ q.2.length ∧ (∀ j o, S1[j]? = some o → j ≠ 4 → q.2[j]? = some o) ∧ ∃ y, q.2[4]? = some (.cells [x, y]) ∧ TxV S1.length q.2 y (outsT l q.1)) (fun q => l.outs.length - q.1) (0, _) ⟨Nat.zero_le _, fun k hk => by omega, Nat.le_refl _, fun j o hj _ => hj, _, g5, TxV.nil _ _⟩ rfl ?_ ?_
      · exact at_
      rintro ⟨m, S2⟩ rr ⟨p1, p2, p3, p4, y, p5, p6⟩
      dsimp only at p1 p2 p3 p4 p5 p6
      have e0 := p4 _ _ e0 (by omega)
      have e1 := p4 _ _ e1 (by omega)
      have e2 := p4 _ _ e2 (by omega)
      have e3 := p4 _ _ e3 (by omega)
      have gl := p4 _ _ gl (by omega)
      have hS2 : S.length < S2.length := by omega
      by_cases hml : m < l.outs.length
      · have cT : CallF Tryz.prog n_syntax_Text [eExpr (l.outs.getD m default)] (.tup [.str (outTx l m).1, I (outTx l m).2]) := syntax_Text _ (k4 _ (getD_mem hml)).1 (k4 _ (getD_mem hml)).2
        have hsc := outsT_succ l m
        have hlm := len_outsT l m
        have hce := hco1 hml p2
        have hb2 := fun he => before_succ (q := fun j => (outTx l j).2 = 0) p2 he
        obtain ⟨a, ha⟩ : ∃ a, outTx l m = a := ⟨_, rfl⟩
        rw [ha] at cT hsc hce hb2
        obtain ⟨c, hc⟩ : ∃ c, l.outs.getD m default = c := ⟨_, rfl⟩
        rw [hc, eExpr_eq] at cT
        obtain ⟨xs, hxs⟩ : ∃ xs, outsT l m = xs := ⟨_, rfl⟩
        rw [hxs] at p6 hsc hlm
        rcases p6 with ⟨rfl, rfl⟩ | ⟨hne, q, hq, rfl, hqs⟩
        · have e0' := fun d => app_keep e0 d
          repeat' first | simp (disch := omega) only [go_sem, hQr, hQn, hQp, wrapK_i64, wrapK_u8, wrapK_u64, Nat.reduceAdd, Nat.reduceBEq, ↓reduceIte, e0, e0', e1, e2, e3, gl, p5, hlN, hc] | refine go_ ?_ | refine cf_ cT ?_ | with_reducible refine callL_any (put1n (app_keep p5 _) _ _) ?_ | refine br_ (fun hw => ?_) (fun hw => ?_) <;> try omega | fail
          rintro o s ⟨rfl, hsv⟩
          have y1 : s[1]? = some (.cells [.str [], .nils, .nils, I 0, I 0, .nils]) := by rw [hsv]; exact keep_first _ _ (app_keep e1 _) (by omega)
          have hs1 : ∀ d, (s.set 1 d)[1]? = some d := fun d => List.getElem?_set_self (lt_of y1)
          repeat' first | simp (disch := omega) only [go_sem, hQr, hQn, hQp, wrapK_i64, wrapK_u8, wrapK_u64, Nat.reduceAdd, Nat.reduceBEq, ↓reduceIte, y1, hs1] | refine go_ ?_ | refine br_ (fun hw => ?_) (fun hw => ?_) <;> try omega | fail
          · rw [hce (by assumption)] at hcn
            rw [← hE, hcn (by assumption)]
            exact leafN (view4 (view_t0 _))
          · have ha0 : a.2 = 0 := by assumption
            refine ⟨(m + 1, s), ⟨by omega, hb2 ha0, ?_, ?_, .own E1 (S2.length + 1) 1 0 1, ?_, ?_⟩, by dsimp only; omega, rfl, ou_, (by simp only [ha0]; simp (disch := omega) only [at_nil, at_cons, and_true, go_sem, hQr, hQn, hQp, wrapK_i64, wrapK_u8, wrapK_u64, Nat.reduceAdd, Nat.reduceBEq, ↓reduceIte, Int.natCast_add, Int.cast_ofNat_Int] <;> (try trivial) <;> (try omega) <;> (try (repeat (first | trivial | (refine And.intro ?_ ?_) | (congr 1; omega)))))⟩
            · dsimp only; rw [hsv]; simp; omega
            · intro j o hj hne; dsimp only; rw [hsv]; exact keep_first j o (app_keep (p4 _ _ hj hne) _) hne
            · dsimp only; rw [hsv, List.getElem?_set_self (by simp; omega)]
            · dsimp only; rw [hsc, hsv]; have := tx_first (S1 := S2 ++ [AObj.cells [I c.op, I c.v.kind, I c.v.n, .str c.v.s, .str c.s, .lst false EX (c.l.map eExpr)]]) (L := S1.length) (k := 4) (c := .cells [x, .own E1 (S2 ++ [AObj.cells [I c.op, I c.v.kind, I c.v.n, .str c.v.s, .str c.s, .lst false EX (c.l.map eExpr)]]).length 1 0 1]) (s := a.1) (by simp; omega) (by simp; omega)
              simpa using this
        · have hqk : q ≠ 4 := by omega
          have e0' := fun d => app_keep e0 d
          repeat' first | simp (disch := omega) only [go_sem, hQr, hQn, hQp, wrapK_i64, wrapK_u8, wrapK_u64, Nat.reduceAdd, Nat.reduceBEq, ↓reduceIte, e0, e0', e1, e2, e3, gl, p5, hlN, hc] | refine go_ ?_ | refine cf_ cT ?_ | with_reducible refine callL_any (put1o (app_keep p5 _) (app_keep hqs _) hqk (by omega) _ _) ?_ | refine br_ (fun hw => ?_) (fun hw => ?_) <;> try omega | fail
          rintro o s ⟨rfl, hsv⟩
          have y1 : s[1]? = some (.cells [.str [], .nils, .nils, I 0, I 0, .nils]) := by rw [hsv]; exact keep_next _ _ (app_keep e1 _) (by omega) (by omega)
          have hs1 : ∀ d, (s.set 1 d)[1]? = some d := fun d => List.getElem?_set_self (lt_of y1)
          repeat' first | simp (disch := omega) only [go_sem, hQr, hQn, hQp, wrapK_i64, wrapK_u8, wrapK_u64, Nat.reduceAdd, Nat.reduceBEq, ↓reduceIte, y1, hs1] | refine go_ ?_ | refine br_ (fun hw => ?_) (fun hw => ?_) <;> try omega | fail
          · rw [hce (by assumption)] at hcn
            rw [← hE, hcn (by assumption)]
            exact leafN (view4 (view_t0 _))
          · have ha0 : a.2 = 0 := by assumption
            refine ⟨(m + 1, s), ⟨by omega, hb2 ha0, ?_, ?_, .own E1 q (xs.length + 1) 0 (xs.length + 1), ?_, ?_⟩, by dsimp only; omega, rfl, ou_, (by simp only [ha0]; simp (disch := omega) only [at_nil, at_cons, and_true, go_sem, hQr, hQn, hQp, wrapK_i64, wrapK_u8, wrapK_u64, Nat.reduceAdd, Nat.reduceBEq, ↓reduceIte, Int.natCast_add, Int.cast_ofNat_Int] <;> (try trivial) <;> (try omega) <;> (try (repeat (first | trivial | (refine And.intro ?_ ?_) | (congr 1; omega)))))⟩
            · dsimp only; rw [hsv]; simp; omega
            · intro j o hj hne; dsimp only; have := lt_of hj; rw [hsv]; exact keep_next j o (app_keep (p4 _ _ hj hne) _) hne (by omega)
            · dsimp only; rw [hsv, List.getElem?_set_self (by simp; omega)]
            · dsimp only; rw [hsc, hsv]; exact tx_next (app_keep hqs _) hq (Ne.symm hqk)
      · obtain rfl : m = l.outs.length := by omega
        have hrok := hok1 p2
        have hxv : TxV (S.length + 1) S2 x (cellsT l l.cells.length) := g6.keep (Nat.le_refl _) (fun q ys hq hqs => p4 q _ hqs (by omega))
        have hxs := hxv.scalar
        have hys := p6.scalar
        have hrv : RowV S2 (.agg [x, y]) ⟨cellsT l l.cells.length, outsT l l.outs.length⟩ := ⟨x, y, rfl, hxv.keep (Nat.zero_le _) (fun _ _ _ h => h), p6.keep (Nat.zero_le _) (fun _ _ _ h => h)⟩
        have hfit : ([AV.agg [x, y]].all fun a => AV.fits ⟨true, 2⟩ a) = true := by simp only [AV.fits, List.length_cons, List.length_nil, List.all_cons, List.all_nil, hxs, hys]; rfl
        have hfit2 : AV.fits ⟨true, 2⟩ (.agg [x, y]) = true := by simpa using hfit
        have hkS : ∀ (q : Nat) (o : AObj), S[q]? = some o → q ≠ 4 → S2[q]? = some o := fun q o hq hne => p4 q o (g4 q o hq hne) hne
        rcases h4 with ⟨h4, rfl⟩ | ⟨h4, q, rs, hq, rfl, hqs, hr⟩
        · have hap : ∀ d : AObj, (S2 ++ [d])[3]? = some (oTab t .nils) := fun d => app_keep e3 d
          repeat' first | simp (disch := omega) only [go_sem, hQr, hQn, hQp, wrapK_i64, wrapK_u8, wrapK_u64, Nat.reduceAdd, Nat.reduceBEq, ↓reduceIte, e0, e1, e2, e3, p5, hap, hfit, hfit2, hlN] | refine go_ ?_ | refine br_ (fun hw => ?_) (fun hw => ?_) <;> try omega | fail
          refine ⟨(n + 1, _), ⟨by omega, before_succ (q := fun j => (rowN t j).2.2 = 0) h2 (by rw [hrow, hln, hlN, hrok]), ?_, ?_, ?_, ?_, ⟨.own ER S2.length 1 0 1, ?_, ?_⟩, x, y, ?_⟩, by dsimp only; omega, rfl, ou_, at_⟩
          · dsimp only; simp; omega
          · exact keep_first _ _ e0 (by omega)
          · exact keep_first _ _ e1 (by omega)
          · exact keep_first _ _ e2 (by omega)
          · dsimp only; rw [List.getElem?_set_self (by simp; omega)]
          · dsimp only
            rw [hrl, h4]
            refine .inr ⟨by simp, S2.length, [.agg [x, y]], by omega, rfl, ?_, RowsV.keep (fun q ys hq => keep_first _ _ hq (fun e => by subst e; rw [e3] at hq; cases hq)) (RowsV.snoc (RowsV.nil S2) hrv)⟩
            rw [List.getElem?_set_ne (by omega)]; simp
          · exact keep_first _ _ p5 (by omega)
        · have hq3 : q ≠ 3 := by omega
          have e4 := hkS _ _ hqs (by omega)
          rw [len_rowsL] at e3
          have hrn : rs.length = n := by rw [hr.1, len_rowsL]
          have hap : ∀ d : AObj, (S2.set q d)[3]? = some (oTab t (.own ER q n 0 n)) := fun d => by rw [List.getElem?_set_ne hq3]; exact e3
          repeat' first | simp (disch := omega) only [go_sem, hQr, hQn, hQp, wrapK_i64, wrapK_u8, wrapK_u64, Nat.reduceAdd, Nat.reduceBEq, ↓reduceIte, e0, e1, e2, e3, p5, hap, hfit, hfit2, e4, hlN, hrn] | refine go_ ?_ | refine br_ (fun hw => ?_) (fun hw => ?_) <;> try omega | fail
          refine ⟨(n + 1, _), ⟨by omega, before_succ (q := fun j => (rowN t j).2.2 = 0) h2 (by rw [hrow, hln, hlN, hrok]), ?_, ?_, ?_, ?_, ⟨.own ER q (n + 1) 0 (n + 1), ?_, ?_⟩, x, y, ?_⟩, by dsimp only; omega, rfl, ou_, at_⟩
          · dsimp only; simp; omega
          · exact keep_next _ _ e0 (by omega) (by omega)
          · exact keep_next _ _ e1 (by omega) (by omega)
          · exact keep_next _ _ e2 (by omega) (by omega)
          · dsimp only; rw [List.getElem?_set_self (by simp; omega)]
          · dsimp only
            rw [hrl]
            have hr2 : RowsV S2 rs (rowsL t n) := hr.keep (fun q ys hq => hkS _ _ hq (fun e => by subst e; rw [f4] at hq; cases hq))
            refine .inr ⟨by simp, q, rs ++ [.agg [x, y]], hq, by simp [len_rowsL], ?_, RowsV.keep (fun p ys hp => keep_next _ _ hp (fun e => by subst e; rw [e3] at hp; cases hp) (fun e => by subst e; rw [e4] at hp; cases hp)) (RowsV.snoc hr2 hrv)⟩
            rw [List.getElem?_set_ne (Ne.symm hq3), List.getElem?_set_self (lt_of e4)]
          · exact keep_next _ _ p5 (by omega) (by omega)
  · obtain rfl : n = ls.length := by omega
    have hva : ([AV.str t.name, .lst false EC (t.ins.map eCol), .lst false EC (t.outs.map eCol), I t.policy, I t.agg, v].all AV.scalar) = true := by simp only [List.all_cons, List.all_nil, hvs]; rfl
    have hs1 : ∀ o, (S.set 1 o)[1]? = some o := fun o => List.getElem?_set_self (lt_of f1)
    repeat' first | simp (disch := omega) only [go_sem, hQr, hQn, hQp, wrapK_i64, wrapK_u8, wrapK_u64, Nat.reduceAdd, Nat.reduceBEq, ↓reduceIte, f0, f1, f2, f3, hva, hs1] | refine go_ ?_ | refine br_ (fun hw => ?_) (fun hw => ?_) <;> try omega | fail
    have h5 := h4.keep (S' := S.set 1 (oTab t v)) (fun q o hq hne => by
      rw [List.getElem?_set_ne (fun e => by subst e; rw [f1] at hq; cases hq; exact hne _ rfl)]; exact hq)
    rw [← hE, hco h2]
    exact leafN (view4 (View.agg' (.cons (.refl _ rfl) (.cons (.refl _ (pur_eCols _)) (.cons (.refl _ (pur_eCols _)) (.cons (.refl _ rfl) (.cons (.refl _ rfl) (.cons h5.view (.nil _)))))))))
end Go.Proofs.YthkhdedadacakaaGreatDoor
namespace Go.Proofs.YthkhdedadacakaaGreatDoor
open Go.AM
set_option maxRecDepth 4000
theorem allN {α : Type} [Inhabited α] {p : α → Bool} {l : List α} (h : ∀ k, k < l.length → p (l.getD k default) = true) : l.all p = true := by
  rw [List.all_eq_true]
  intro x hx
  obtain ⟨i, hi, rfl⟩ := List.getElem_of_mem hx
  have := h i hi
  rwa [List.getD_eq_getElem?_getD, List.getElem?_eq_getElem hi, Option.getD_some] at this
theorem allF {α : Type} [Inhabited α] {p : α → Bool} {l : List α} {i : Nat} (hi : i < l.length) (h : p (l.getD i default) = false) : l.all p = false := by
  cases hq : l.all p with
  | false => rfl
  | true => rw [List.all_eq_true] at hq; rw [hq _ (getD_mem hi)] at h; cases h
def lenB (n : Nat) (s : Str) : Bool := decide (s.length ≤ n)
def txS (l : List Str) : Bool := decide (l.length ≤ 10) && l.all (lenB 300)
theorem law18_texts (l : List Str) : CallF Tryz.prog n_law18_texts [eStrs l] (.bool (txS l)) := by
  obtain ⟨E, hE⟩ : ∃ E, txS l = E := ⟨_, rfl⟩
  rw [hE]
  unfold txS at hE
  simp only [eStrs]
  refine CallF.of_nil (of_law18_texts (by simp) ?_) (by simp)
  unfold b_law18_texts WpR
  intro Q hQr hQn hQp
  repeat' first | refine go_ ?_ | refine br_ (fun hw => ?_) (fun hw => ?_) <;> try omega | fail
  · refine leafE ?_ rfl; rw [← hE, decide_eq_false (by omega), Bool.false_and]
  have h10 : l.length ≤ 10 := by omega
  rw [decide_eq_true h10, Bool.true_and] at hE
  with_reducible refine loop_i [2, 3, 7, 8, 9, 10, 11, 12, 13, 14, 15, 16, 17, 18] (fun i : Nat => [(3, I i)]) (fun _ => []) (fun i => i ≤ l.length ∧ ∀ k, k < i → lenB 300 (l.getD k default) = true) (fun i => l.length - i) (0) ?_ ?_ ?_ ?_
  · simp
  · rfl
  · exact at_
  rintro i r ⟨h1, h2⟩
  by_cases hi : i < l.length
  · have hne := fun h => allF (p := lenB 300) hi h
    have hbs := fun he => before_succ (q := fun k => lenB 300 (l.getD k default) = true) h2 (i := i) he
    have hS : lenB 300 (l.getD i default) = decide ((l.getD i default).length ≤ 300) := rfl
    rw [hS] at hne hbs
    repeat' first | refine go_ ?_ | refine br_ (fun hw => ?_) (fun hw => ?_) <;> try omega | fail
    all_goals first
      | exact ab_
      | (refine leafE ?_ rfl; rw [← hE, hne (decide_eq_false (by omega))])
      | (refine ⟨i + 1, ?_, ?_, by first | rfl | (simp [go_sem]; done), ou_, at_⟩ <;> (try dsimp only)
         · exact ⟨by omega, hbs (decide_eq_true (by omega))⟩
         · omega)
  · repeat' first | refine go_ ?_ | refine br_ (fun hw => ?_) (fun hw => ?_) <;> try omega | fail
    refine leafE ?_ rfl; rw [← hE, allN (fun k hk => h2 k (by omega))]
def nameB (c : Col) : Bool := decide (c.name.length ≤ 300)
def fewS (l : List Col) : Bool := decide (l.length ≤ 12) && l.all nameB
theorem law15_Few (l : List Col) : CallF Tryz.prog n_law15_Cols_Few [eCols l] (.bool (fewS l)) := by
  obtain ⟨E, hE⟩ : ∃ E, fewS l = E := ⟨_, rfl⟩
  rw [hE]
  unfold fewS at hE
  simp only [eCols]
  refine CallF.of_nil (of_law15_Cols_Few (by simp) ?_) (by simp)
  unfold b_law15_Cols_Few WpR
  intro Q hQr hQn hQp
  repeat' first | refine go_ ?_ | refine br_ (fun hw => ?_) (fun hw => ?_) <;> try omega | fail
  · refine leafE ?_ rfl; rw [← hE, decide_eq_false (by omega), Bool.false_and]
  have h10 : l.length ≤ 12 := by omega
  rw [decide_eq_true h10, Bool.true_and] at hE
  with_reducible refine loop_i [2, 3, 7, 8, 9, 10, 11, 12, 13, 14, 15, 16, 17, 18, 19] (fun i : Nat => [(3, I i)]) (fun _ => []) (fun i => i ≤ l.length ∧ ∀ k, k < i → nameB (l.getD k default) = true) (fun i => l.length - i) (0) ?_ ?_ ?_ ?_
  · simp
  · rfl
  · exact at_
  rintro i r ⟨h1, h2⟩
  by_cases hi : i < l.length
  · have hne := fun h => allF (p := nameB) hi h
    have hbs := fun he => before_succ (q := fun k => nameB (l.getD k default) = true) h2 (i := i) he
    have hS : nameB (l.getD i default) = decide ((l.getD i default).name.length ≤ 300) := rfl
    rw [hS] at hne hbs
    repeat' first | refine go_ ?_ | refine br_ (fun hw => ?_) (fun hw => ?_) <;> try omega | fail
    all_goals first
      | exact ab_
      | (refine leafE ?_ rfl; rw [← hE, hne (decide_eq_false (by omega))])
      | (refine ⟨i + 1, ?_, ?_, by first | rfl | (simp [go_sem]; done), ou_, at_⟩ <;> (try dsimp only)
         · exact ⟨by omega, hbs (decide_eq_true (by omega))⟩
         · omega)
  · repeat' first | refine go_ ?_ | refine br_ (fun hw => ?_) (fun hw => ?_) <;> try omega | fail
    refine leafE ?_ rfl; rw [← hE, allN (fun k hk => h2 k (by omega))]
def valB (v : Val) : Bool := decide (v.s.length ≤ 300)
def colB (c : Col) : Bool := decide (c.order.length ≤ 12) && c.order.all valB
def ordS (l : List Col) : Bool := fewS l && l.all colB
theorem law18_order (l : List Col) : CallF Tryz.prog n_law18_order [eCols l] (.bool (ordS l)) := by
  have cf := law15_Few l
  obtain ⟨E, hE⟩ : ∃ E, ordS l = E := ⟨_, rfl⟩
  rw [hE]
  unfold ordS at hE
  have h12 : fewS l = true → l.length ≤ 12 := fun h => by simp only [fewS, Bool.and_eq_true, decide_eq_true_eq] at h; exact h.1
  simp only [eCols] at cf ⊢
  generalize fewS l = fe at *
  refine CallF.of_nil (of_law18_order (by simp) ?_) (by simp)
  unfold b_law18_order WpR
  intro Q hQr hQn hQp
  cases fe with
  | false =>
    repeat' first | refine go_ ?_ | refine cf_ cf ?_ | refine br_ (fun hw => ?_) (fun hw => ?_) <;> try omega | fail
    all_goals first
      | exact ab_
      | (refine leafE ?_ rfl; rw [← hE, Bool.false_and])
  | true =>
    rw [Bool.true_and] at hE
    have h12 := h12 rfl
    repeat' first | refine go_ ?_ | refine cf_ cf ?_ | refine br_ (fun hw => ?_) (fun hw => ?_) <;> try omega | fail
    all_goals first | exact ab_ | skip
    with_reducible refine loop_i [2, 3, 4, 8, 9, 10, 11, 12, 13, 14, 15, 16, 17, 18, 19, 20, 21, 22, 23, 24, 25, 26, 27, 28, 29, 30, 31, 32, 33, 34, 35, 36, 37, 38, 39, 40, 41] (fun i : Nat => [(3, I i)]) (fun _ => []) (fun i => i ≤ l.length ∧ ∀ k, k < i → colB (l.getD k default) = true) (fun i => l.length - i) (0) ?_ ?_ ?_ ?_
    · simp
    · rfl
    · exact at_
    rintro i r ⟨h1, h2⟩
    by_cases hi : i < l.length
    · have hne := fun h => allF (p := colB) hi h
      have hbs := fun he => before_succ (q := fun k => colB (l.getD k default) = true) h2 (i := i) he
      have hS : colB (l.getD i default) = (decide ((l.getD i default).order.length ≤ 12) && (l.getD i default).order.all valB) := rfl
      rw [hS] at hne hbs
      obtain ⟨c, hc⟩ : ∃ c, l.getD i default = c := ⟨_, rfl⟩
      rw [hc] at hne hbs
      clear hS
      repeat' first | simp (disch := omega) only [go_sem, hQr, hQn, hQp, wrapK_i64, wrapK_u8, wrapK_u64, Nat.reduceAdd, Nat.reduceBEq, ↓reduceIte, hc] | refine go_ ?_ | refine br_ (fun hw => ?_) (fun hw => ?_) <;> try omega | fail
      · refine leafE ?_ rfl; rw [← hE, hne (by rw [decide_eq_false (by omega), Bool.false_and])]
      have ho : c.order.length ≤ 12 := by omega
      rw [decide_eq_true ho, Bool.true_and] at hne hbs
      with_reducible refine loop_i [2, 4, 21, 22, 23, 24, 25, 26, 27, 28, 29, 30, 31, 32, 33, 34, 35, 36, 37, 38, 39, 40, 41] (fun j : Nat => [(4, I j)]) (fun _ => []) (fun j => j ≤ c.order.length ∧ ∀ k, k < j → valB (c.order.getD k default) = true) (fun j => c.order.length - j) (0) ?_ ?_ ?_ ?_
      · simp
      · rfl
      · exact at_
      rintro j r2 ⟨g1, g2⟩
      by_cases hj : j < c.order.length
      · have hne2 := fun h => allF (p := valB) hj h
        have hbs2 := fun he => before_succ (q := fun k => valB (c.order.getD k default) = true) g2 (i := j) he
        have hS : valB (c.order.getD j default) = decide ((c.order.getD j default).s.length ≤ 300) := rfl
        rw [hS] at hne2 hbs2
        repeat' first | simp (disch := omega) only [go_sem, hQr, hQn, hQp, wrapK_i64, wrapK_u8, wrapK_u64, Nat.reduceAdd, Nat.reduceBEq, ↓reduceIte, hc] | refine go_ ?_ | refine br_ (fun hw => ?_) (fun hw => ?_) <;> try omega | fail
        all_goals first
          | exact ab_
          | (refine leafE ?_ rfl; rw [← hE, hne (hne2 (decide_eq_false (by omega)))])
          | (refine ⟨j + 1, ?_, ?_, by first | rfl | (simp [go_sem]; done), ou_, at_⟩ <;> (try dsimp only)
             · exact ⟨by omega, hbs2 (decide_eq_true (by omega))⟩
             · omega)
      · repeat' first | simp (disch := omega) only [go_sem, hQr, hQn, hQp, wrapK_i64, wrapK_u8, wrapK_u64, Nat.reduceAdd, Nat.reduceBEq, ↓reduceIte, hc] | refine go_ ?_ | refine br_ (fun hw => ?_) (fun hw => ?_) <;> try omega | fail
        refine ⟨i + 1, ?_, ?_, by first | rfl | (simp [go_sem]; done), ou_, at_⟩ <;> (try dsimp only)
        · exact ⟨by omega, hbs (allN (fun k hk => g2 k (by omega)))⟩
        · omega
    · repeat' first | refine go_ ?_ | refine br_ (fun hw => ?_) (fun hw => ?_) <;> try omega | fail
      refine leafE ?_ rfl; rw [← hE, allN (fun k hk => h2 k (by omega))]
def rulB (r : Rule) : Bool := txS r.cells && txS r.outs
def smallT (t : Table) : Bool := decide (t.name.length ≤ 300) && decide (t.rules.length ≤ 26) && ordS t.ins && ordS t.outs && t.rules.all rulB
theorem law18_Small (t : Table) : CallF Tryz.prog n_law18_T_Small [eTable t] (.bool (smallT t)) := by
  have ci := law18_order t.ins
  have co := law18_order t.outs
  obtain ⟨E, hE⟩ : ∃ E, smallT t = E := ⟨_, rfl⟩
  rw [hE]
  unfold smallT at hE
  simp only [eTable, cTable, eCols, eRules] at ci co ⊢
  generalize ordS t.ins = oi at *
  generalize ordS t.outs = oo at *
  refine CallF.of_nil (of_law18_T_Small (by simp) ?_) (by simp)
  unfold b_law18_T_Small WpR
  intro Q hQr hQn hQp
  by_cases hb : (decide (t.name.length ≤ 300) && decide (t.rules.length ≤ 26) && oi && oo) = true
  case neg =>
    simp only [Bool.not_eq_true] at hb
    rw [hb, Bool.false_and] at hE
    cases oi <;> cases oo
    all_goals
      repeat' first | refine go_ ?_ | refine cf_ ci ?_ | refine cf_ co ?_ | refine br_ (fun hw => ?_) (fun hw => ?_) <;> try omega | fail
    all_goals first
      | exact ab_
      | (refine leafE ?_ rfl; rw [← hE])
      | (exfalso; simp at hb; omega)
  rw [hb, Bool.true_and] at hE
  simp only [Bool.and_eq_true, decide_eq_true_eq] at hb
  obtain ⟨⟨⟨b1, b2⟩, rfl⟩, rfl⟩ := hb
  repeat' first | refine go_ ?_ | refine cf_ ci ?_ | refine cf_ co ?_ | refine br_ (fun hw => ?_) (fun hw => ?_) <;> try omega | fail
  all_goals first | exact ab_ | skip
  with_reducible refine loop_i [2, 3, 26, 27, 28, 29, 30, 31, 32, 33, 34, 35, 36, 37, 38, 39, 40, 41, 42, 43, 44, 45, 46, 47, 48, 49, 50] (fun i : Nat => [(3, I i)]) (fun _ => [.cells [.str t.name, .lst false EC (t.ins.map eCol), .lst false EC (t.outs.map eCol), I t.policy, I t.agg, .lst false ER (t.rules.map eRule)]]) (fun i => i ≤ t.rules.length ∧ ∀ k, k < i → rulB (t.rules.getD k default) = true) (fun i => t.rules.length - i) (0) ?_ ?_ ?_ ?_
  · simp
  · rfl
  · exact at_
  rintro i r ⟨h1, h2⟩
  by_cases hi : i < t.rules.length
  · have hne := fun h => allF (p := rulB) hi h
    have hbs := fun he => before_succ (q := fun k => rulB (t.rules.getD k default) = true) h2 (i := i) he
    have hS : rulB (t.rules.getD i default) = (txS (t.rules.getD i default).cells && txS (t.rules.getD i default).outs) := rfl
    have c1 := law18_texts (t.rules.getD i default).cells
    have c2 := law18_texts (t.rules.getD i default).outs
    rw [hS] at hne hbs
    simp only [eStrs] at c1 c2
    generalize txS (t.rules.getD i default).cells = u1 at *
    generalize txS (t.rules.getD i default).outs = u2 at *
    cases u1 <;> cases u2
    all_goals
      repeat' first | refine go_ ?_ | refine cf_ c1 ?_ | refine cf_ c2 ?_ | refine br_ (fun hw => ?_) (fun hw => ?_) <;> try omega | fail
    all_goals first
      | exact ab_
      | (refine leafE ?_ rfl; rw [← hE, hne rfl])
      | (refine ⟨i + 1, ?_, ?_, by first | rfl | (simp [go_sem]; done), ou_, at_⟩ <;> (try dsimp only)
         · exact ⟨by omega, hbs rfl⟩
         · omega)
  · repeat' first | refine go_ ?_ | refine br_ (fun hw => ?_) (fun hw => ?_) <;> try omega | fail
    refine leafE ?_ rfl; rw [← hE, allN (fun k hk => h2 k (by omega))]
end Go.Proofs.YthkhdedadacakaaGreatDoor
namespace Go.Proofs.YthkhdedadacakaaGreatDoor
open Go.AM
set_option maxRecDepth 8000
def exT : Table := ⟨[116], [⟨[97], 1, []⟩], [⟨[111], 2, []⟩], 2, 0, [⟨[[60, 53]], [[34, 120, 34]]⟩]⟩
theorem ex_make : (makeS exT).2 = (0, 0, 0) ∧ (makeS exT).1.lines.length = 1 := ⟨by kernel_rfl, by kernel_rfl⟩
theorem ex_clean : (cleanS exT).2 = (0, 0, 0) ∧ (cleanS exT).1.rules = [⟨[[60, 32, 53]], [[34, 120, 34]]⟩] := ⟨by kernel_rfl, by kernel_rfl⟩
def rngV (v : Val) : Prop := -9223372036854775808 ≤ v.n ∧ v.n ≤ 9223372036854775807
def rngC (l : List Col) : Prop := ∀ c ∈ l, ∀ v ∈ c.order, rngV v
def rngT (t : Table) : Prop := rngC t.ins ∧ rngC t.outs
theorem ok_cols {l : List Col} (h : ordS l = true) (hr : rngC l) : l.length ≤ 12 ∧ ∀ c ∈ l, okCol c := by
  simp only [ordS, fewS, Bool.and_eq_true, decide_eq_true_eq, List.all_eq_true] at h
  obtain ⟨⟨h1, h2⟩, h3⟩ := h
  refine ⟨h1, fun c hc => ?_⟩
  have a := h2 c hc
  have b := h3 c hc
  simp only [nameB, colB, Bool.and_eq_true, decide_eq_true_eq, List.all_eq_true] at a b
  refine ⟨by omega, by omega, fun v hv => ⟨hr c hc v hv, ?_⟩⟩
  have := b.2 v hv
  simp only [valB, decide_eq_true_eq] at this
  omega
theorem tx_small {l : List Str} (h : txS l = true) : l.length ≤ 10 ∧ ∀ s ∈ l, s.length ≤ 300 := by
  simp only [txS, Bool.and_eq_true, decide_eq_true_eq, List.all_eq_true] at h
  exact ⟨h.1, fun s hs => by have := h.2 s hs; simpa [lenB] using this⟩
theorem ok_small {t : Table} (h : smallT t = true) (hr : rngT t) : okTab t := by
  simp only [smallT, Bool.and_eq_true, decide_eq_true_eq, List.all_eq_true] at h
  obtain ⟨⟨⟨⟨h1, h2⟩, h3⟩, h4⟩, h5⟩ := h
  have ci := ok_cols h3 hr.1
  have co := ok_cols h4 hr.2
  refine ⟨by omega, ⟨by omega, ci.2⟩, ⟨by omega, co.2⟩, by omega, fun r hrr => ?_⟩
  have := h5 r hrr
  simp only [rulB, Bool.and_eq_true] at this
  have a := tx_small this.1
  have b := tx_small this.2
  exact ⟨⟨by omega, fun s hs => by have := a.2 s hs; omega⟩, by omega, fun s hs => by have := b.2 s hs; omega⟩
theorem law18_example : CallF Tryz.prog n_law18_example [] (eTable exT) := by
  obtain ⟨E, hE⟩ : ∃ E, eTable exT = E := ⟨_, rfl⟩
  rw [hE]
  refine CallF.of_nil (of_law18_example (by simp) ?_) rfl
  unfold b_law18_example WpR
  intro Q hQr hQn hQp
  repeat' first | refine go_ ?_ | refine br_ (fun hw => ?_) (fun hw => ?_) <;> try omega | fail
  rw [← hE]
  refine leaf1 ?_
  have v1 : ∀ σ s (k : Int), View σ (.agg [.str s, I k, .nils]) (eCol ⟨s, k, []⟩) := fun σ s k => View.agg' (.cons (.refl _ rfl) (.cons (.refl _ rfl) (.cons (.nils _) (.nil _))))
  have v2 : ∀ σ s, View σ (.lst true E1 [.str s]) (eStrs [s]) := fun σ s => .weak _ _ _ rfl
  exact View.agg' (.cons (.refl _ rfl) (.cons (View.lstL (.cons (v1 _ _ _) (.nil _))) (.cons (View.lstL (.cons (v1 _ _ _) (.nil _))) (.cons (.refl _ rfl) (.cons (.refl _ rfl) (.cons (View.lstL (.cons (View.agg' (.cons (v2 _ _) (.cons (v2 _ _) (.nil _)))) (.nil _))) (.nil _)))))))
theorem law18_lives : CallF Tryz.prog n_law18_lives [] (.bool true) := by
  have ce := law18_example
  have ok : okTab exT := ok_small (by decide) ⟨fun c hc v hv => (by simp [exT] at hc; subst hc; cases hv), fun c hc v hv => (by simp [exT] at hc; subst hc; cases hv)⟩
  have c1 := dtable_Make exT ok
  have c2 := dtable_Clean exT ok
  have f1 := ex_make
  have f2 := ex_clean
  generalize makeS exT = M at *
  generalize cleanS exT = C at *
  obtain ⟨M, m1, m2, m3⟩ := M
  obtain ⟨C, d1, d2, d3⟩ := C
  obtain ⟨⟨rfl, rfl, rfl⟩, f1⟩ := f1
  obtain ⟨⟨rfl, rfl, rfl⟩, f2⟩ := f2
  generalize exT = X at *
  simp only [eR4, eT4, eReady, eTable, cTable, eCols, eRules, eLines] at ce c1 c2
  dsimp only at f1 f2
  rw [f2] at c2
  refine CallF.of_nil (of_law18_lives (by simp) ?_) rfl
  unfold b_law18_lives WpR
  intro Q hQr hQn hQp
  repeat' first | simp (disch := omega) only [go_sem, hQr, hQn, hQp, wrapK_i64, wrapK_u8, wrapK_u64, Nat.reduceAdd, Nat.reduceBEq, ↓reduceIte, f1] | refine go_ ?_ | refine cf_ ce ?_ | refine cf_ c1 ?_ | refine cf_ c2 ?_ | refine br_ (fun hw => ?_) (fun hw => ?_) <;> try omega | fail
  exact leafE rfl rfl
end Go.Proofs.YthkhdedadacakaaGreatDoor
namespace Go.Proofs.YthkhdedadacakaaGreatDoor
open Go.AM
set_option maxRecDepth 4000
theorem eqL_refl {α : Type} {p : α → α → Bool} (l : List α) (h : ∀ x ∈ l, p x x = true) : eqL p l l = true := by
  induction l with
  | nil => rfl
  | cons x l ih => simp only [eqL, h x (by simp), Bool.true_and]; exact ih (fun y hy => h y (List.mem_cons_of_mem _ hy))
theorem sameS_refl (x : Expr) : sameS x x = true := by
  induction x using Expr.ind with
  | h op v s l ih =>
    simp only [sameS, Expr.op, Expr.v, Expr.s, Expr.l, decide_true, Bool.true_and]
    rw [sameL_eq]; exact eqL_refl l ih
theorem sameC_refl (c : Cell) : sameC c c = true := by
  unfold sameC
  rw [eqL_refl c.tests (fun t _ => by simp [sameT, sameS_refl])]
  simp
theorem sameLn_refl (l : Line) : sameLn l l = true := by
  unfold sameLn
  rw [eqL_refl l.cells (fun c _ => sameC_refl c), eqL_refl l.outs (fun x _ => sameS_refl x)]; rfl
theorem sameLns_refl (l : List Line) : eqL sameLn l l = true := eqL_refl l (fun x _ => sameLn_refl x)
theorem sameTab_refl (t : Table) : sameTab t t = true := by
  have hc : ∀ l : List Col, eqL sameCol l l = true := fun l => eqL_refl l (fun c _ => by
    unfold sameCol; rw [eqL_refl c.order (fun v _ => by simp)]; simp)
  have hr : ∀ l : List Rule, eqL sameRule l l = true := fun l => eqL_refl l (fun r _ => by
    unfold sameRule; rw [eqL_refl r.cells (fun v _ => by simp), eqL_refl r.outs (fun v _ => by simp)]; rfl)
  unfold sameTab
  rw [hc, hc, hr]; simp
theorem sameRdy_refl (r : Ready) : sameRdy r r = true := by unfold sameRdy; rw [sameTab_refl, sameLns_refl]; rfl
theorem sm_cols {l : List Col} (h : l.length ≤ 2 ^ 30 ∧ ∀ c ∈ l, okCol c) : smCols l := ⟨by omega, fun c hc => (h.2 c hc).2.1⟩
theorem sm_tab {t : Table} (h : okTab t) : smTab t := ⟨sm_cols h.2.1, sm_cols h.2.2.1, by have := h.2.2.2.1; omega, fun r hr => by
  have := h.2.2.2.2 r hr; exact ⟨by omega, by omega⟩⟩
theorem sm_line {l : Line} (h : okLine l) : smLn l := by
  refine ⟨⟨by have := h.1.1; omega, fun c hc => ?_⟩, by have := h.2.1; omega, fun x hx => brX_sz _ (by have := (h.2.2 x hx).2; omega)⟩
  have := h.1.2 c hc
  exact ⟨by have := this.1; omega, fun t ht => by
    obtain ⟨⟨_, a⟩, _, b⟩ := this.2 t ht
    exact ⟨brX_sz _ (by omega), brX_sz _ (by omega)⟩⟩
theorem sm_tab0 : smTab table0 := ⟨⟨by decide, fun c hc => (by cases hc)⟩, ⟨by decide, fun c hc => (by cases hc)⟩, by decide, fun c hc => (by cases hc)⟩
theorem make_1 (t : Table) : (makeS t).2.2.2 = 0 ∨ (makeS t).1 = ready0 := by
  by_cases h : frameS t = 0
  · unfold makeS
    rw [if_neg (by omega)]
    split
    · exact .inr rfl
    · exact .inl rfl
  · rw [makeS_frame h]; exact .inr rfl
theorem lines_ok {t : Table} (h : okTab t) (h0 : (makeS t).2.2.2 = 0) : (makeS t).1.lines.length ≤ 2 ^ 30 ∧ ∀ x ∈ (makeS t).1.lines, okLine x := by
  obtain ⟨h1, h2⟩ := makeS_lines h h0
  refine ⟨by have := h.2.2.2.1; omega, fun x hx => ?_⟩
  obtain ⟨i, hi, rfl⟩ := List.getElem_of_mem hx
  have := h2 i
  unfold lineN at this
  rwa [List.getD_eq_getElem?_getD, List.getElem?_eq_getElem hi, Option.getD_some] at this
theorem sm_make {t : Table} (h : okTab t) : smTab (makeS t).1.table ∧ smLns (makeS t).1.lines := by
  rcases make_1 t with h0 | h0
  · obtain ⟨h1, h2⟩ := lines_ok h h0
    refine ⟨?_, by omega, fun x hx => sm_line (h2 x hx)⟩
    rw [(makeS_zero h0).2.2]; exact sm_tab h
  · rw [h0]
    exact ⟨sm_tab0, by decide, fun x hx => (by cases hx)⟩
theorem sm_clean {t : Table} (h : okTab t) : smTab (cleanS t).1 := by
  by_cases he : (makeS t).2.2.2 = 0
  · unfold cleanS
    rw [if_neg (by omega)]
    split
    · exact sm_tab0
    · obtain ⟨a, b, c, d⟩ := sm_tab h
      obtain ⟨h1, h2⟩ := makeS_lines h he
      refine ⟨a, b, ?_, fun r hr => ?_⟩
      · dsimp only; rw [len_rowsL]; omega
      · obtain ⟨k, _, rfl⟩ := List.mem_map.1 hr
        have hk := h2 k
        unfold rowN
        rw [rowS_1]
        refine ⟨?_, ?_⟩
        · dsimp only; rw [len_cellsT]; have := hk.1.1; omega
        · dsimp only; rw [len_outsT]; have := hk.2.1; omega
  · rw [cleanS_make he]; exact sm_tab0
theorem law18_DtableMakes (t : Table) (hr : rngT t) : CallF Tryz.prog n_law18_DtableMakes [eTable t] (.bool true) := by
  have cs := law18_Small t
  have cl := law18_lives
  cases hs : smallT t with
  | false =>
    rw [hs] at cs
    simp only [eTable, cTable, eCols, eRules] at cs ⊢
    refine CallF.of_nil (of_law18_DtableMakes (by simp) ?_) (by simp)
    unfold b_law18_DtableMakes WpR
    intro Q hQr hQn hQp
    repeat' first | refine go_ ?_ | refine cf_ cs ?_ | refine cf_ cl ?_ | refine br_ (fun hw => ?_) (fun hw => ?_) <;> try omega | fail
    all_goals first | exact ab_ | exact leafE rfl rfl
  | true =>
    rw [hs] at cs
    have ok := ok_small hs hr
    have c1 := dtable_Make t ok
    have c2 := ref18_Make t ok
    have c3 := ref18_SameReady _ _ (sm_make ok) (sm_make ok)
    rw [sameRdy_refl] at c3
    clear hs ok
    generalize makeS t = M at *
    obtain ⟨M, m1, m2, m3⟩ := M
    simp only [eR4, eReady, eTable, cTable, eCols, eRules, eLines] at cs c1 c2 c3 ⊢
    refine CallF.of_nil (of_law18_DtableMakes (by simp) ?_) (by simp)
    unfold b_law18_DtableMakes WpR
    intro Q hQr hQn hQp
    repeat' first | refine go_ ?_ | refine cf_ cs ?_ | refine cf_ cl ?_ | refine cf_ c1 ?_ | refine cf_ c2 ?_ | refine cf_ c3 ?_ | refine br_ (fun hw => ?_) (fun hw => ?_) <;> try omega | fail
    all_goals first | exact ab_ | exact leafE (by simp) rfl
theorem law18_DtableCleans (t : Table) (hr : rngT t) : CallF Tryz.prog n_law18_DtableCleans [eTable t] (.bool true) := by
  have cs := law18_Small t
  have cl := law18_lives
  cases hs : smallT t with
  | false =>
    rw [hs] at cs
    simp only [eTable, cTable, eCols, eRules] at cs ⊢
    refine CallF.of_nil (of_law18_DtableCleans (by simp) ?_) (by simp)
    unfold b_law18_DtableCleans WpR
    intro Q hQr hQn hQp
    repeat' first | refine go_ ?_ | refine cf_ cs ?_ | refine cf_ cl ?_ | refine br_ (fun hw => ?_) (fun hw => ?_) <;> try omega | fail
    all_goals first | exact ab_ | exact leafE rfl rfl
  | true =>
    rw [hs] at cs
    have ok := ok_small hs hr
    have c1 := dtable_Clean t ok
    have c2 := ref18_Clean t ok
    have c3 := ref18_Same _ _ (sm_clean ok) (sm_clean ok)
    rw [sameTab_refl] at c3
    clear hs ok
    generalize cleanS t = M at *
    obtain ⟨M, m1, m2, m3⟩ := M
    simp only [eT4, eTable, cTable, eCols, eRules, eLines] at cs c1 c2 c3 ⊢
    refine CallF.of_nil (of_law18_DtableCleans (by simp) ?_) (by simp)
    unfold b_law18_DtableCleans WpR
    intro Q hQr hQn hQp
    repeat' first | refine go_ ?_ | refine cf_ cs ?_ | refine cf_ cl ?_ | refine cf_ c1 ?_ | refine cf_ c2 ?_ | refine cf_ c3 ?_ | refine br_ (fun hw => ?_) (fun hw => ?_) <;> try omega | fail
    all_goals first | exact ab_ | exact leafE (by simp) rfl
end Go.Proofs.YthkhdedadacakaaGreatDoor
namespace Go.AM
open Go.ChangeShapes Go.WideShapes
section
variable {H : Type} {enc : TypeId × Value → H} {P : Program} {w w' : World} {base : Nat} {spare : Nat → Bool} {held : Bool}
theorem DataW_TrodAll_carry : ∀ {ts : List TypeId} {vs : List Value} {ds : List (DataW H)} {ps : List MemPlace}, DataW.TrodAll enc P w base spare held ts vs ds ps → (∀ p ∈ ps, w.sameAt w' p) → DataW.TrodAll enc P w' base spare held ts vs ds ps
  | [], [], [], _, h, _ => h
  | _ :: _, _ :: _, _ :: _, _, ⟨p, q, ⟨n, hn⟩, h2, e⟩, hs => ⟨p, q, ⟨n, DataW.trod_carry n _ _ _ hn (fun x hx => hs x (by rw [e]; exact List.mem_append_left _ hx))⟩, DataW_TrodAll_carry h2 (fun x hx => hs x (by rw [e]; exact List.mem_append_right _ hx)), e⟩
theorem keptBut_of_heap {may : MemPlace → Prop} (h1 : w'.os = w.os) (h2 : w'.output = w.output) (h3 : ∀ b, b < w.heap.size → w'.heap[b]? = w.heap[b]?) : w.keptBut w' may := by
  refine ⟨h1, h2, fun i hi => ?_⟩
  rw [h3 i hi]
  split
  · rename_i a b ha hb
    rw [ha] at hb
    cases Option.some.inj hb
    exact ⟨rfl, rfl, rfl, fun _ _ => rfl⟩
  · rename_i a b ha hb
    rw [ha] at hb
    cases Option.some.inj hb
    exact .inr ⟨rfl, rfl⟩
  · rfl
theorem sameAt_of_heap (h3 : ∀ b, b < w.heap.size → w'.heap[b]? = w.heap[b]?) {p : MemPlace} (hp : p.block < w.heap.size) : w.sameAt w' p := by
  cases p with
  | cell b off => exact cell?_of_heap (h3 b hp) off none
  | map b => exact h3 b hp
def Ghost.all (w : World) : Ghost := Ghost.bare (· < w.heap.size)
theorem Said_of_CallF {f : FuncId} {fn : Func} {s : ChangeSpec} {t : TypeId} {args' : List AV} {W : World} {args : Array Value} {ds gs : List (DataW H)} {before : List MemPlace}
    (h : CallF P f args' (.bool true)) (hW : DataW.Whole enc P fn.params.toList s.vars false W args.toList ds gs before) (hG : GlobR (Ghost.all W) W)
    (K : Kids P (· < P.types.size)) (hz : ∀ t e, t < P.types.size → P.underlying t = some (.slice e) → 0 < P.cellsOf e) (hps : ∀ t ∈ fn.params.toList, t < P.types.size)
    (hvars : s.vars = []) (hrt : fn.resultTypes = #[t]) (ht : P.underlying t = some .bool) (hfn : s.fn H (ds ++ gs) = { results := [.lit (.bool true)], args := ds, vars := [] })
    (hl : args'.length = args.size) (hv : ∀ i, i < args'.length → VR (Ghost.all W) W (args'.getD i .undef) (args.getD i Go.undef)) :
    Calls P f args W fun e W' => ∃ v, e = .returned v ∧ s.post enc P fn false true false false W args v W' := by
  refine ((h []).2 (Ghost.all W) W args (Rel.bare (fun _ h => h) hG) hl hv).mono ?_
  rintro e W' ⟨out, g', σ', hR, hE, hO, rfl, rfl⟩
  have hfr : ∀ b, b < W.heap.size → W'.heap[b]? = W.heap[b]? := fun b hb => hE.frame b hb not_tracked_nil
  cases e with
  | panicked c => exact hO.elim
  | outgrown => exact hO.elim
  | returned v =>
    have hb : v = .bool true := by cases hO; rfl
    subst hb
    refine ⟨_, rfl, ds, gs, before, [], before, [], hW, ?_, ?_, ?_, keptBut_of_heap hE.os hE.output hfr, fun h => by cases h⟩
    · rw [hfn, hrt]
      exact trodAll_mk1 (RowKit.shut_bool ht true)
    · rw [hfn]
      have hlt := hW.lt
      obtain ⟨p, q, h1, h2, rfl, _, _⟩ := hW
      rw [hvars] at h2
      obtain ⟨rfl, rfl⟩ := trodVars_none h2
      rw [List.append_nil] at hlt ⊢
      refine DataW_TrodAll_carry (DataW.TrodAll.respare K hz hps h1 (fun x hx => by simpa using hlt x hx)) (fun x hx => sameAt_of_heap hfr (hlt x hx))
    · rw [hfn, hvars]
      rfl
theorem VR.string {g : Ghost} {w : World} (s : ByteArray) : VR g w (.str s.data.toList) (.string s) := VR.str s.data.toList
end
end Go.AM
