/- Part of a proof: see Root. -/
import Derived.Test.YthkhdedadacakaaGreatDoorZ27
set_option linter.unnecessarySimpa false
set_option linter.unusedSimpArgs false
set_option linter.unusedVariables false
namespace Go.Proofs.YthkhdedadacakaaGreatDoor
open Go.AM
set_option maxRecDepth 4000
set_option maxHeartbeats 8000000 in
theorem ref18_rule (t : Table) (r : Rule) (ht : t.ins.length ≤ 2 ^ 30) (ho : t.outs.length ≤ 2 ^ 30) (ht0 : 0 < t.ins.length) (hr : (r.cells.length ≤ 2 ^ 30 ∧ ∀ s ∈ r.cells, s.length ≤ 2 ^ 30) ∧ r.outs.length ≤ 2 ^ 30 ∧ ∀ s ∈ r.outs, s.length ≤ 2 ^ 30) : CallF Tryz.prog n_ref18_rule [eTable t, eRule r] (eLn (lineS t r)) := by
  obtain ⟨⟨hr1, hr2⟩, hr3, hr4⟩ := hr
  obtain ⟨E, hE⟩ : ∃ E, eLn (lineS t r) = E := ⟨_, rfl⟩
  rw [hE]
  simp only [eTable, cTable, eCols, eRules, eRule, eStrs]
  by_cases hb : r.cells.length ≠ t.ins.length ∨ r.outs.length ≠ t.outs.length
  · refine CallF.of_nil (of_ref18_rule (by simp) ?_) (by simp)
    unfold b_ref18_rule WpR
    intro Q hQr hQn hQp
    repeat' first | refine go_ ?_ | refine br_ (fun hw => ?_) (fun hw => ?_) <;> try omega | fail
    all_goals first
      | exact ab_
      | (rw [← hE, lineS_bad hb]; exact leafN (view_ln (.nils _) (.nils _)))
  have q1 : r.cells.length = t.ins.length := by omega
  have q2 : r.outs.length = t.outs.length := by omega
  clear hb
  refine CallF.of_nil (of_ref18_rule (by simp) ?_) (by simp)
  unfold b_ref18_rule WpR
  intro Q hQr hQn hQp
  repeat' first | refine go_ ?_ | refine br_ (fun hw => ?_) (fun hw => ?_) <;> try omega | fail
  all_goals first | exact ab_ | skip
  with_reducible refine loop_i [5, 6, 8, 9, 10, 11, 35, 36, 37, 38, 39, 40, 41, 42, 43, 44, 45, 46, 47, 48, 49, 50, 51, 52, 53, 54, 55, 56, 57, 58, 59, 60, 61, 62, 63, 64, 65, 66, 67, 68, 69, 70, 71, 72, 73, 74] (fun q : Nat × Store => [(8, I q.1)]) (fun q => q.2) (fun q => q.1 ≤ r.cells.length ∧ (∀ k, k < q.1 → (askR t r k).2 = 0) ∧ (q.1 = 0 ∧ q.2 = [.cells [.str t.name, .lst false EC (t.ins.map eCol), .lst false EC (t.outs.map eCol), I t.policy, I t.agg, .lst false ER (t.rules.map eRule)], .cells [.lst false E1 (r.cells.map eStr), .lst false E1 (r.outs.map eStr)], .cells [.nils, .nils], .cells [.nils, .nils]] ∨ 0 < q.1 ∧ ∃ c1 τ, q.2 = .cells [.str t.name, .lst false EC (t.ins.map eCol), .lst false EC (t.outs.map eCol), I t.policy, I t.agg, .lst false ER (t.rules.map eRule)] :: .cells [.lst false E1 (r.cells.map eStr), .lst false E1 (r.outs.map eStr)] :: .cells [.nils, .nils] :: .cells [.own EC 5 q.1 0 q.1, .nils] :: c1 :: .vec EC ((cellL t r q.1).map eCell) :: τ)) (fun q => r.cells.length - q.1) (0, _) ⟨Nat.zero_le _, fun k hk => by omega, .inl ⟨rfl, rfl⟩⟩ rfl ?_ ?_
  · exact at_
  rintro ⟨k, S⟩ rr ⟨h1, h2, h3⟩
  dsimp only at h1 h2 h3
  rcases h3 with ⟨rfl, rfl⟩ | ⟨hk, c1', τ, rfl⟩
  · have hae := fun he => lineS_ask q1 q2 (k := 0) (by omega) h2 he
    have hcl := cellL_succ t r 0
    have hA : askR t r 0 = ((parseC (r.cells.getD 0 default)).1, if (parseC (r.cells.getD 0 default)).2.2 = 0 then typC t.ins (t.ins.getD 0 default).kind (parseC (r.cells.getD 0 default)).1 else (parseC (r.cells.getD 0 default)).2.2) := rfl
    have c1 := ref17_Parse (r.cells.getD 0 default) (hr2 _ (getD_mem (by omega)))
    have c2 := ref17_Typed t.ins (by omega) (t.ins.getD 0 default).kind _ (parseC_ok (r.cells.getD 0 default))
    obtain ⟨cc, hcc⟩ : ∃ c, t.ins.getD 0 default = c := ⟨_, rfl⟩
    rw [hcc] at c2 hA
    generalize typC t.ins cc.kind (parseC (r.cells.getD 0 default)).1 = ty at hA c2
    generalize parseC (r.cells.getD 0 default) = P at hA c1 c2
    obtain ⟨c, pn, e⟩ := P
    dsimp only at c1 c2 hA
    simp only [eC3] at c1
    simp only [eCell, eTests, eCols] at c1 c2
    by_cases he : e = 0
    · rw [if_pos he] at hA
      rw [hA] at hae hcl
      subst he
      by_cases hty : ty = 0
      · subst hty
        repeat' first | simp (disch := omega) only [go_sem, hQr, hQn, hQp, wrapK_i64, wrapK_u8, wrapK_u64, Nat.reduceAdd, Nat.reduceBEq, ↓reduceIte, hcc] | refine go_ ?_ | refine cf_ c1 ?_ | refine cf_ c2 ?_ | refine br_ (fun hw => ?_) (fun hw => ?_) <;> try omega | fail
        all_goals first
          | exact ab_
          | skip
        refine ⟨(1, [.cells [.str t.name, .lst false EC (t.ins.map eCol), .lst false EC (t.outs.map eCol), I t.policy, I t.agg, .lst false ER (t.rules.map eRule)], .cells [.lst false E1 (r.cells.map eStr), .lst false E1 (r.outs.map eStr)], .cells [.nils, .nils], .cells [.own EC 5 1 0 1, .nils], .cells [.bool c.any, .bool c.neg, .lst false ES (c.tests.map eTest)], .vec EC [.agg [.bool c.any, .bool c.neg, .lst false ES (c.tests.map eTest)]]]), ?_, ?_, ?_, ou_, at_⟩ <;> (try dsimp only)
        · refine ⟨by omega, fun j hj => ?_, .inr ⟨by omega, .cells [.bool c.any, .bool c.neg, .lst false ES (c.tests.map eTest)], [], ?_⟩⟩
          · obtain rfl : j = 0 := by omega
            rw [hA]
          · rw [hcl]; rfl
        · omega
        all_goals rfl
      · repeat' first | simp (disch := omega) only [go_sem, hQr, hQn, hQp, wrapK_i64, wrapK_u8, wrapK_u64, Nat.reduceAdd, Nat.reduceBEq, ↓reduceIte, hcc] | refine go_ ?_ | refine cf_ c1 ?_ | refine cf_ c2 ?_ | refine br_ (fun hw => ?_) (fun hw => ?_) <;> try omega | fail
        all_goals first
          | exact ab_
          | (rw [← hE, hae hty]
             exact leafN (view_ln (.nils _) (.nils _)))
    · rw [if_neg he] at hA
      rw [hA] at hae hcl
      repeat' first | simp (disch := omega) only [go_sem, hQr, hQn, hQp, wrapK_i64, wrapK_u8, wrapK_u64, Nat.reduceAdd, Nat.reduceBEq, ↓reduceIte, hcc] | refine go_ ?_ | refine cf_ c1 ?_ | refine cf_ c2 ?_ | refine br_ (fun hw => ?_) (fun hw => ?_) <;> try omega | fail
      all_goals first
        | exact ab_
        | (rw [← hE, hae he]
           exact leafN (view_ln (.nils _) (.nils _)))
  · by_cases hkl : k < r.cells.length
    · have hae := fun he => lineS_ask q1 q2 (k := k) (by omega) h2 he
      have hcl := cellL_succ t r k
      have hll := len_cellL t r k
      have hb2 := fun he => before_succ (q := fun j => (askR t r j).2 = 0) h2 he
      obtain ⟨L, hL⟩ : ∃ L, cellL t r k = L := ⟨_, rfl⟩
      rw [hL] at hll hcl
      simp only [hL] at hae ⊢
      have hA : askR t r k = ((parseC (r.cells.getD k default)).1, if (parseC (r.cells.getD k default)).2.2 = 0 then typC t.ins (t.ins.getD k default).kind (parseC (r.cells.getD k default)).1 else (parseC (r.cells.getD k default)).2.2) := rfl
      have c1 := ref17_Parse (r.cells.getD k default) (hr2 _ (getD_mem (by omega)))
      have c2 := ref17_Typed t.ins (by omega) (t.ins.getD k default).kind _ (parseC_ok (r.cells.getD k default))
      obtain ⟨cc, hcc⟩ : ∃ c, t.ins.getD k default = c := ⟨_, rfl⟩
      rw [hcc] at c2 hA
      generalize typC t.ins cc.kind (parseC (r.cells.getD k default)).1 = ty at hA c2
      generalize parseC (r.cells.getD k default) = P at hA c1 c2
      obtain ⟨c, pn, e⟩ := P
      dsimp only at c1 c2 hA
      simp only [eC3] at c1
      simp only [eCell, eTests, eCols] at c1 c2
      by_cases he : e = 0
      · rw [if_pos he] at hA
        rw [hA] at hae hcl
        subst he
        by_cases hty : ty = 0
        · subst hty
          repeat' first | simp (disch := omega) only [go_sem, hQr, hQn, hQp, wrapK_i64, wrapK_u8, wrapK_u64, Nat.reduceAdd, Nat.reduceBEq, ↓reduceIte, hcc, hll] | refine go_ ?_ | refine cf_ c1 ?_ | refine cf_ c2 ?_ | refine br_ (fun hw => ?_) (fun hw => ?_) <;> try omega | fail
          all_goals first
            | exact ab_
            | skip
          refine ⟨(k + 1, .cells [.str t.name, .lst false EC (t.ins.map eCol), .lst false EC (t.outs.map eCol), I t.policy, I t.agg, .lst false ER (t.rules.map eRule)] :: .cells [.lst false E1 (r.cells.map eStr), .lst false E1 (r.outs.map eStr)] :: .cells [.nils, .nils] :: .cells [.own EC 5 (k + 1) 0 (k + 1), .nils] :: c1' :: .vec EC (L.map eCell ++ [.agg [.bool c.any, .bool c.neg, .lst false ES (c.tests.map eTest)]]) :: (τ ++ [.cells [.bool c.any, .bool c.neg, .lst false ES (c.tests.map eTest)]])), ?_, ?_, ?_, ou_, at_⟩ <;> (try dsimp only)
          · refine ⟨by omega, hb2 (by rw [hA]), .inr ⟨by omega, c1', τ ++ [.cells [.bool c.any, .bool c.neg, .lst false ES (c.tests.map eTest)]], ?_⟩⟩
            rw [hcl, List.map_append]; rfl
          · omega
          all_goals rfl
        · repeat' first | simp (disch := omega) only [go_sem, hQr, hQn, hQp, wrapK_i64, wrapK_u8, wrapK_u64, Nat.reduceAdd, Nat.reduceBEq, ↓reduceIte, hcc, hll] | refine go_ ?_ | refine cf_ c1 ?_ | refine cf_ c2 ?_ | refine br_ (fun hw => ?_) (fun hw => ?_) <;> try omega | fail
          all_goals first
            | exact ab_
            | (rw [← hE, hae hty]
               exact leafN (view_ln (View.vec rfl (by simp [hll]) (by simp [hll]) (purL_cell _)) (.nils _)))
      · rw [if_neg he] at hA
        rw [hA] at hae hcl
        repeat' first | simp (disch := omega) only [go_sem, hQr, hQn, hQp, wrapK_i64, wrapK_u8, wrapK_u64, Nat.reduceAdd, Nat.reduceBEq, ↓reduceIte, hcc, hll] | refine go_ ?_ | refine cf_ c1 ?_ | refine cf_ c2 ?_ | refine br_ (fun hw => ?_) (fun hw => ?_) <;> try omega | fail
        all_goals first
          | exact ab_
          | (rw [← hE, hae he]
             exact leafN (view_ln (View.vec rfl (by simp [hll]) (by simp [hll]) (purL_cell _)) (.nils _)))
    · have hkn : k = r.cells.length := by omega
      subst hkn
      have hll := len_cellL t r r.cells.length
      have hok := fun h => lineS_ok q1 q2 h2 h
      have hte := fun k (hk : k < r.outs.length) h he => lineS_tell q1 q2 h2 (k := k) hk h he
      obtain ⟨L, hL⟩ : ∃ L, cellL t r r.cells.length = L := ⟨_, rfl⟩
      rw [hL] at hll
      simp only [hL] at hok hte ⊢
      repeat' first | refine go_ ?_ | refine br_ (fun hw => ?_) (fun hw => ?_) <;> try omega | fail
      with_reducible refine loop_i [5, 6, 12, 13, 14, 15, 16, 75, 76, 77, 78, 79, 80, 81, 82, 83, 84, 85, 86, 87, 88, 89, 90, 91, 92, 93, 94, 95, 96, 97, 98, 99, 100, 101, 102, 103, 104, 105, 106, 107, 108, 109, 110, 111, 112, 113, 114, 115, 116, 117, 118, 119, 120, 121, 122, 123, 124, 125, 126, 127, 128] (fun q : Nat × Store => [(12, I q.1)]) (fun q => q.2) (fun q => q.1 ≤ r.outs.length ∧ (∀ k, k < q.1 → (tellR t r k).2 = 0) ∧ (q.1 = 0 ∧ q.2 = .cells [.str t.name, .lst false EC (t.ins.map eCol), .lst false EC (t.outs.map eCol), I t.policy, I t.agg, .lst false ER (t.rules.map eRule)] :: .cells [.lst false E1 (r.cells.map eStr), .lst false E1 (r.outs.map eStr)] :: .cells [.nils, .nils] :: .cells [.own EC 5 r.cells.length 0 r.cells.length, .nils] :: c1' :: .vec EC (L.map eCell) :: τ ∨ 0 < q.1 ∧ ∃ p ρ, q.2 = .cells [.str t.name, .lst false EC (t.ins.map eCol), .lst false EC (t.outs.map eCol), I t.policy, I t.agg, .lst false ER (t.rules.map eRule)] :: .cells [.lst false E1 (r.cells.map eStr), .lst false E1 (r.outs.map eStr)] :: .cells [.nils, .nils] :: .cells [.own EC 5 r.cells.length 0 r.cells.length, .own EX (p + 1 + 1 + 1 + 1 + 1 + 1) q.1 0 q.1] :: c1' :: .vec EC (L.map eCell) :: ρ ∧ ρ[p]? = some (.vec EX ((outL t r q.1).map eExpr)))) (fun q => r.outs.length - q.1) (0, _) ⟨Nat.zero_le _, fun k hk => by omega, .inl ⟨rfl, rfl⟩⟩ rfl ?_ ?_
      · exact at_
      rintro ⟨m, S⟩ rr ⟨g1, g2, g3⟩
      dsimp only at g1 g2 g3
      rcases g3 with ⟨rfl, rfl⟩ | ⟨hm, p, ρ, rfl, hk⟩
      · by_cases hml : 0 < r.outs.length
        · have hae := fun he => hte 0 hml g2 he
          have hcl := outL_succ t r 0
          have hA : tellR t r 0 = ((parseS (r.outs.getD 0 default)).1, if (parseS (r.outs.getD 0 default)).2.2 ≠ 0 then (parseS (r.outs.getD 0 default)).2.2 else if (kindR t.ins (parseS (r.outs.getD 0 default)).1).2 = 0 ∧ fitsK (kindR t.ins (parseS (r.outs.getD 0 default)).1).1 (t.outs.getD 0 default).kind = false then 14 else (kindR t.ins (parseS (r.outs.getD 0 default)).1).2) := rfl
          have c1 := ref14_Parse (r.outs.getD 0 default) (hr4 _ (getD_mem (by omega)))
          have hp := parseS_ok (r.outs.getD 0 default)
          have c2 := ref15_KindR t.ins (by omega) (parseS (r.outs.getD 0 default)).1 hp.1 (by have := hp.2; omega)
          have c3 := ref15_Fits (kindR t.ins (parseS (r.outs.getD 0 default)).1).1 (t.outs.getD 0 default).kind
          clear hp
          obtain ⟨cc, hcc⟩ : ∃ c, t.outs.getD 0 default = c := ⟨_, rfl⟩
          rw [hcc] at c3 hA
          generalize fitsK (kindR t.ins (parseS (r.outs.getD 0 default)).1).1 cc.kind = fi at hA c3
          generalize kindR t.ins (parseS (r.outs.getD 0 default)).1 = ki at hA c2 c3
          generalize parseS (r.outs.getD 0 default) = P at hA c1 c2
          obtain ⟨x, pn, e⟩ := P
          obtain ⟨k1, k2⟩ := ki
          dsimp only at c1 c2 c3 hA
          simp only [eX3] at c1
          rw [eExpr_eq] at c1 c2
          try simp only [eExprs] at c1 c2
          simp only [eCols] at c2
          by_cases he : e = 0
          · subst he
            rw [if_neg (by simp)] at hA
            by_cases hk2e : k2 = 0
            · subst hk2e
              cases fi with
              | false =>
                rw [if_pos ⟨rfl, rfl⟩] at hA
                rw [hA] at hae hcl
                repeat' first | simp (disch := omega) only [go_sem, hQr, hQn, hQp, wrapK_i64, wrapK_u8, wrapK_u64, Nat.reduceAdd, Nat.reduceBEq, ↓reduceIte, hcc, hll] | refine go_ ?_ | refine cf_ c1 ?_ | refine cf_ c2 ?_ | refine cf_ c3 ?_ | refine br_ (fun hw => ?_) (fun hw => ?_) <;> try omega | fail
                all_goals first
                  | exact ab_
                  | (rw [← hE, hae (show (14 : Int) ≠ 0 by decide)]
                     exact leafN (view_ln (View.vec rfl (by simp [hll]) (by simp [hll]) (purL_cell _)) (.nils _)))
              | true =>
                rw [if_neg (by simp)] at hA
                rw [hA] at hae hcl
                repeat' first | simp (disch := omega) only [go_sem, hQr, hQn, hQp, wrapK_i64, wrapK_u8, wrapK_u64, Nat.reduceAdd, Nat.reduceBEq, ↓reduceIte, hcc, hll] | refine go_ ?_ | refine cf_ c1 ?_ | refine cf_ c2 ?_ | refine cf_ c3 ?_ | refine br_ (fun hw => ?_) (fun hw => ?_) <;> try omega | fail
                all_goals first
                  | exact ab_
                  | skip
                refine ⟨(1, .cells [.str t.name, .lst false EC (t.ins.map eCol), .lst false EC (t.outs.map eCol), I t.policy, I t.agg, .lst false ER (t.rules.map eRule)] :: .cells [.lst false E1 (r.cells.map eStr), .lst false E1 (r.outs.map eStr)] :: .cells [.nils, .nils] :: .cells [.own EC 5 r.cells.length 0 r.cells.length, .own EX (τ.length + 1 + 1 + 1 + 1 + 1 + 1 + 1) 1 0 1] :: c1' :: .vec EC (L.map eCell) :: (τ ++ [.cells [I x.op, I x.v.kind, I x.v.n, .str x.v.s, .str x.s, .lst false EX (x.l.map eExpr)]] ++ [.vec EX [.agg [I x.op, I x.v.kind, I x.v.n, .str x.v.s, .str x.s, .lst false EX (x.l.map eExpr)]]])), ?_, ?_, ?_, ou_, at_⟩ <;> (try dsimp only)
                · refine ⟨by omega, fun j hj => ?_, .inr ⟨by omega, τ.length + 1, _, rfl, ?_⟩⟩
                  · obtain rfl : j = 0 := by omega
                    rw [hA]
                  · rw [hcl, show ∀ x, [x] = [] ++ [x] from fun _ => rfl]
                    simp [outL, eExpr_eq, eExprs]
                · omega
                all_goals first | rfl | (simp [go_sem]; done)
            · rw [if_neg (fun h => hk2e h.1)] at hA
              rw [hA] at hae hcl
              repeat' first | simp (disch := omega) only [go_sem, hQr, hQn, hQp, wrapK_i64, wrapK_u8, wrapK_u64, Nat.reduceAdd, Nat.reduceBEq, ↓reduceIte, hcc, hll] | refine go_ ?_ | refine cf_ c1 ?_ | refine cf_ c2 ?_ | refine cf_ c3 ?_ | refine br_ (fun hw => ?_) (fun hw => ?_) <;> try omega | fail
              all_goals first
                | exact ab_
                | (rw [← hE, hae hk2e]
                   exact leafN (view_ln (View.vec rfl (by simp [hll]) (by simp [hll]) (purL_cell _)) (.nils _)))
          · rw [if_pos he] at hA
            rw [hA] at hae hcl
            repeat' first | simp (disch := omega) only [go_sem, hQr, hQn, hQp, wrapK_i64, wrapK_u8, wrapK_u64, Nat.reduceAdd, Nat.reduceBEq, ↓reduceIte, hcc, hll] | refine go_ ?_ | refine cf_ c1 ?_ | refine cf_ c2 ?_ | refine cf_ c3 ?_ | refine br_ (fun hw => ?_) (fun hw => ?_) <;> try omega | fail
            all_goals first
              | exact ab_
              | (rw [← hE, hae he]
                 exact leafN (view_ln (View.vec rfl (by simp [hll]) (by simp [hll]) (purL_cell _)) (.nils _)))
        · repeat' first | simp (disch := omega) only [go_sem, hQr, hQn, hQp, wrapK_i64, wrapK_u8, wrapK_u64, Nat.reduceAdd, Nat.reduceBEq, ↓reduceIte, hll] | refine go_ ?_ | refine br_ (fun hw => ?_) (fun hw => ?_) <;> try omega | fail
          rw [← hE, hok (fun j hj => by omega)]
          have h0 : r.outs.length = 0 := by omega
          rw [h0]
          exact leafN (view_ln (View.vec rfl (by simp [hll]) (by simp [hll]) (purL_cell _)) (.nils _))
      · have hlt := (List.getElem?_eq_some_iff.1 hk).1
        have hll2 := len_outL t r m
        have hk2 := fun d : AObj => (List.getElem?_append_left (l₁ := ρ) (l₂ := [d]) hlt).trans hk
        by_cases hml : m < r.outs.length
        · have hae := fun he => hte m hml g2 he
          have hcl := outL_succ t r m
          have hb2 := fun he => before_succ (q := fun j => (tellR t r j).2 = 0) g2 he
          have hs2 := fun (d w : AObj) => List.set_append_left (s := ρ) (t := [d]) p w hlt
          obtain ⟨X, hX⟩ : ∃ X, outL t r m = X := ⟨_, rfl⟩
          rw [hX] at hll2 hcl hk hae
          simp only [hX] at hk2
          have hA : tellR t r m = ((parseS (r.outs.getD m default)).1, if (parseS (r.outs.getD m default)).2.2 ≠ 0 then (parseS (r.outs.getD m default)).2.2 else if (kindR t.ins (parseS (r.outs.getD m default)).1).2 = 0 ∧ fitsK (kindR t.ins (parseS (r.outs.getD m default)).1).1 (t.outs.getD m default).kind = false then 14 else (kindR t.ins (parseS (r.outs.getD m default)).1).2) := rfl
          have c1 := ref14_Parse (r.outs.getD m default) (hr4 _ (getD_mem (by omega)))
          have hp := parseS_ok (r.outs.getD m default)
          have c2 := ref15_KindR t.ins (by omega) (parseS (r.outs.getD m default)).1 hp.1 (by have := hp.2; omega)
          have c3 := ref15_Fits (kindR t.ins (parseS (r.outs.getD m default)).1).1 (t.outs.getD m default).kind
          clear hp
          obtain ⟨cc, hcc⟩ : ∃ c, t.outs.getD m default = c := ⟨_, rfl⟩
          rw [hcc] at c3 hA
          generalize fitsK (kindR t.ins (parseS (r.outs.getD m default)).1).1 cc.kind = fi at hA c3
          generalize kindR t.ins (parseS (r.outs.getD m default)).1 = ki at hA c2 c3
          generalize parseS (r.outs.getD m default) = P at hA c1 c2
          obtain ⟨x, pn, e⟩ := P
          obtain ⟨k1, k2⟩ := ki
          dsimp only at c1 c2 c3 hA
          simp only [eX3] at c1
          rw [eExpr_eq] at c1 c2
          try simp only [eExprs] at c1 c2
          simp only [eCols] at c2
          by_cases he : e = 0
          · subst he
            rw [if_neg (by simp)] at hA
            by_cases hk2e : k2 = 0
            · subst hk2e
              cases fi with
              | false =>
                rw [if_pos ⟨rfl, rfl⟩] at hA
                rw [hA] at hae hcl
                repeat' first | simp (disch := omega) only [go_sem, hQr, hQn, hQp, wrapK_i64, wrapK_u8, wrapK_u64, Nat.reduceAdd, Nat.reduceBEq, ↓reduceIte, hcc, hll, hll2, hk, hk2, hs2] | refine go_ ?_ | refine cf_ c1 ?_ | refine cf_ c2 ?_ | refine cf_ c3 ?_ | refine br_ (fun hw => ?_) (fun hw => ?_) <;> try omega | fail
                all_goals first
                  | exact ab_
                  | (rw [← hE, hae (show (14 : Int) ≠ 0 by decide)]
                     exact leafN (view_ln (View.vec rfl (by simp [hll]) (by simp [hll]) (purL_cell _)) (View.vec (hk2 _) (by simp [hll2]) (by simp [hll2]) (purL_x _))))
              | true =>
                rw [if_neg (by simp)] at hA
                rw [hA] at hae hcl
                repeat' first | simp (disch := omega) only [go_sem, hQr, hQn, hQp, wrapK_i64, wrapK_u8, wrapK_u64, Nat.reduceAdd, Nat.reduceBEq, ↓reduceIte, hcc, hll, hll2, hk, hk2, hs2] | refine go_ ?_ | refine cf_ c1 ?_ | refine cf_ c2 ?_ | refine cf_ c3 ?_ | refine br_ (fun hw => ?_) (fun hw => ?_) <;> try omega | fail
                all_goals first
                  | exact ab_
                  | skip
                refine ⟨(m + 1, .cells [.str t.name, .lst false EC (t.ins.map eCol), .lst false EC (t.outs.map eCol), I t.policy, I t.agg, .lst false ER (t.rules.map eRule)] :: .cells [.lst false E1 (r.cells.map eStr), .lst false E1 (r.outs.map eStr)] :: .cells [.nils, .nils] :: .cells [.own EC 5 r.cells.length 0 r.cells.length, .own EX (p + 1 + 1 + 1 + 1 + 1 + 1) (m + 1) 0 (m + 1)] :: c1' :: .vec EC (L.map eCell) :: (ρ.set p (.vec EX (X.map eExpr ++ [.agg [I x.op, I x.v.kind, I x.v.n, .str x.v.s, .str x.s, .lst false EX (x.l.map eExpr)]])) ++ [.cells [I x.op, I x.v.kind, I x.v.n, .str x.v.s, .str x.s, .lst false EX (x.l.map eExpr)]])), ?_, ?_, ?_, ou_, at_⟩ <;> (try dsimp only)
                · refine ⟨by omega, hb2 (by rw [hA]), .inr ⟨by omega, p, _, rfl, ?_⟩⟩
                  rw [hcl, List.map_append, List.getElem?_append_left (by simpa using hlt), List.getElem?_set_self (by simpa using hlt)]
                  simp [eExpr_eq, eExprs]
                · omega
                all_goals first | rfl | (simp [go_sem]; done)
            · rw [if_neg (fun h => hk2e h.1)] at hA
              rw [hA] at hae hcl
              repeat' first | simp (disch := omega) only [go_sem, hQr, hQn, hQp, wrapK_i64, wrapK_u8, wrapK_u64, Nat.reduceAdd, Nat.reduceBEq, ↓reduceIte, hcc, hll, hll2, hk, hk2, hs2] | refine go_ ?_ | refine cf_ c1 ?_ | refine cf_ c2 ?_ | refine cf_ c3 ?_ | refine br_ (fun hw => ?_) (fun hw => ?_) <;> try omega | fail
              all_goals first
                | exact ab_
                | (rw [← hE, hae hk2e]
                   exact leafN (view_ln (View.vec rfl (by simp [hll]) (by simp [hll]) (purL_cell _)) (View.vec (hk2 _) (by simp [hll2]) (by simp [hll2]) (purL_x _))))
          · rw [if_pos he] at hA
            rw [hA] at hae hcl
            repeat' first | simp (disch := omega) only [go_sem, hQr, hQn, hQp, wrapK_i64, wrapK_u8, wrapK_u64, Nat.reduceAdd, Nat.reduceBEq, ↓reduceIte, hcc, hll, hll2, hk, hk2, hs2] | refine go_ ?_ | refine cf_ c1 ?_ | refine cf_ c2 ?_ | refine cf_ c3 ?_ | refine br_ (fun hw => ?_) (fun hw => ?_) <;> try omega | fail
            all_goals first
              | exact ab_
              | (rw [← hE, hae he]
                 exact leafN (view_ln (View.vec rfl (by simp [hll]) (by simp [hll]) (purL_cell _)) (View.vec (hk2 _) (by simp [hll2]) (by simp [hll2]) (purL_x _))))
        · obtain rfl : m = r.outs.length := by omega
          repeat' first | simp (disch := omega) only [go_sem, hQr, hQn, hQp, wrapK_i64, wrapK_u8, wrapK_u64, Nat.reduceAdd, Nat.reduceBEq, ↓reduceIte, hll, hll2, hk, hk2] | refine go_ ?_ | refine br_ (fun hw => ?_) (fun hw => ?_) <;> try omega | fail
          rw [← hE, hok g2]
          exact leafN (view_ln (View.vec rfl (by simp [hll]) (by simp [hll]) (purL_cell _)) (View.vec hk (by simp [hll2]) (by simp [hll2]) (purL_x _)))
def lineR (t : Table) (k : Nat) : Line × Int × Int := lineS t (t.rules.getD k default)
def lineL (t : Table) (n : Nat) : List Line := (List.range n).map fun k => (lineR t k).1
def ready0 : Ready := ⟨⟨[], [], [], 0, 0, []⟩, []⟩
def makeS (t : Table) : Ready × Int × Int × Int :=
  if frameS t ≠ 0 then (ready0, -1, 0, frameS t)
  else match (List.range t.rules.length).find? (fun k => (lineR t k).2.2 != 0) with
  | some k => (ready0, k, (lineR t k).2.1, (lineR t k).2.2)
  | none => (⟨t, lineL t t.rules.length⟩, 0, 0, 0)
def eR4 (r : Ready × Int × Int × Int) : AV := .tup [eReady r.1, I r.2.1, I r.2.2.1, I r.2.2.2]
theorem lineL_succ (t : Table) (n : Nat) : lineL t (n + 1) = lineL t n ++ [(lineR t n).1] := by simp [lineL, List.range_succ]
theorem len_lineL (t : Table) (n : Nat) : (lineL t n).length = n := by simp [lineL]
theorem makeS_frame {t : Table} (h : frameS t ≠ 0) : makeS t = (ready0, (-1 : Int), (0 : Int), frameS t) := by unfold makeS; rw [if_pos h]
theorem makeS_line {t : Table} (h0 : frameS t = 0) {k : Nat} (hk : k < t.rules.length) (h : ∀ j, j < k → (lineR t j).2.2 = 0) (he : (lineR t k).2.2 ≠ 0) : makeS t = (ready0, (k : Int), (lineR t k).2.1, (lineR t k).2.2) := by
  unfold makeS
  rw [if_neg (by omega), range_at (i := k) hk (fun j hj => by simp [h j hj]) (by simp [he])]
theorem makeS_ok {t : Table} (h0 : frameS t = 0) (h : ∀ j, j < t.rules.length → (lineR t j).2.2 = 0) : makeS t = ((⟨t, lineL t t.rules.length⟩ : Ready), (0 : Int), (0 : Int), (0 : Int)) := by
  unfold makeS
  rw [if_neg (by omega), range_non (fun j hj => by simp [h j hj])]
theorem frameS_ins {t : Table} (h : frameS t = 0) : 0 < t.ins.length := by
  unfold frameS at h
  split at h
  · omega
  split at h
  · omega
  · rename_i h1 h2
    exact (colF_zero (by omega : colF t.ins false = 0)).2
theorem view4 {σ : Store} {a E : AV} {n m k : Int} (h : View σ a E) : ViewL σ [a, I n, I m, I k] [E, I n, I m, I k] := .cons h (.cons (.refl _ rfl) (.cons (.refl _ rfl) (.cons (.refl _ rfl) (.nil _))))
theorem view_r0 (σ : Store) : View σ (.agg [.str [], .nils, .nils, I 0, I 0, .nils, .nils]) (eReady ready0) :=
  View.agg' (.cons (.refl _ rfl) (.cons (.nils _) (.cons (.nils _) (.cons (.refl _ rfl) (.cons (.refl _ rfl) (.cons (.nils _) (.cons (.nils _) (.nil _))))))))
set_option maxHeartbeats 4000000 in
theorem dtable_Make (t : Table) (h : okTab t) : CallF Tryz.prog n_dtable_Make [eTable t] (eR4 (makeS t)) := by
  have cf := dtable_frame t h
  obtain ⟨E, hE⟩ : ∃ E, eR4 (makeS t) = E := ⟨_, rfl⟩
  rw [hE]
  have hl := fun (h0 : 0 < t.ins.length) k (hk : k < t.rules.length) => dtable_line t (t.rules.getD k default) h.2.1.1 h.2.2.1.1 h0 (h.2.2.2.2 _ (getD_mem hk))
  have hr30 := h.2.2.2.1
  simp only [eTable, cTable, eCols, eRules] at cf hl ⊢
  by_cases hf : frameS t ≠ 0
  · have hm := makeS_frame hf
    obtain ⟨f, hfe⟩ : ∃ f, frameS t = f := ⟨_, rfl⟩
    rw [hfe] at cf hm hf
    refine CallF.of_nil (of_dtable_Make (by simp) ?_) (by simp)
    unfold b_dtable_Make WpR
    intro Q hQr hQn hQp
    repeat' first | refine go_ ?_ | refine cf_ cf ?_ | refine br_ (fun hw => ?_) (fun hw => ?_) <;> try omega | fail
    all_goals first
      | exact ab_
      | (rw [← hE, hm]; exact leafN (view4 (view_r0 _)))
  have hf0 : frameS t = 0 := by omega
  have hi0 : 0 < t.ins.length := frameS_ins hf0
  rw [hf0] at cf
  replace hl := hl hi0
  clear hf
  refine CallF.of_nil (of_dtable_Make (by simp) ?_) (by simp)
  unfold b_dtable_Make WpR
  intro Q hQr hQn hQp
  repeat' first | refine go_ ?_ | refine cf_ cf ?_ | refine br_ (fun hw => ?_) (fun hw => ?_) <;> try omega | fail
  all_goals first | exact ab_ | skip
  with_reducible refine loop_i [3, 4, 5, 8, 9, 10, 11, 12, 24, 25, 26, 27, 28, 29, 30, 31, 32, 33, 34, 35, 36, 37, 38, 39, 40, 41, 42, 43, 44, 45, 46, 47, 48] (fun q : Nat × Store => [(24, I q.1)]) (fun q => q.2) (fun q => q.1 ≤ t.rules.length ∧ (∀ k, k < q.1 → (lineR t k).2.2 = 0) ∧ (q.1 = 0 ∧ q.2 = [.cells [.str t.name, .lst false EC (t.ins.map eCol), .lst false EC (t.outs.map eCol), I t.policy, I t.agg, .lst false ER (t.rules.map eRule)], .cells [.str [], .nils, .nils, I 0, I 0, .nils, .nils], .cells [.str t.name, .lst false EC (t.ins.map eCol), .lst false EC (t.outs.map eCol), I t.policy, I t.agg, .lst false ER (t.rules.map eRule), .nils]] ∨ 0 < q.1 ∧ ∃ b1 b2 τ, q.2 = .cells [.str t.name, .lst false EC (t.ins.map eCol), .lst false EC (t.outs.map eCol), I t.policy, I t.agg, .lst false ER (t.rules.map eRule)] :: .cells [.str [], .nils, .nils, I 0, I 0, .nils, .nils] :: .cells [.str t.name, .lst false EC (t.ins.map eCol), .lst false EC (t.outs.map eCol), I t.policy, I t.agg, .lst false ER (t.rules.map eRule), .own ER 5 q.1 0 q.1] :: b1 :: b2 :: .vec ER ((lineL t q.1).map eLine) :: τ)) (fun q => t.rules.length - q.1) (0, _) ⟨Nat.zero_le _, fun k hk => by omega, .inl ⟨rfl, rfl⟩⟩ rfl ?_ ?_
  · exact at_
  rintro ⟨k, S⟩ rr ⟨h1, h2, h3⟩
  dsimp only at h1 h2 h3
  by_cases hkl : k < t.rules.length
  · have c := hl k hkl
    have hae := fun he => makeS_line hf0 hkl h2 he
    have hcl := lineL_succ t k
    have hll := len_lineL t k
    have hb2 := fun he => before_succ (q := fun j => (lineR t j).2.2 = 0) h2 he
    have hlr : lineR t k = lineS t (t.rules.getD k default) := rfl
    obtain ⟨a, ha⟩ : ∃ a, lineR t k = a := ⟨_, rfl⟩
    rw [ha] at hae hcl hb2 hlr
    rw [← hlr] at c
    obtain ⟨ru, hru⟩ : ∃ ru, t.rules.getD k default = ru := ⟨_, rfl⟩
    rw [hru] at c
    clear hlr
    simp only [eLn, eLine, eCells, eExprs, eRule, eStrs] at c
    rcases h3 with ⟨rfl, rfl⟩ | ⟨hk, b1, b2, τ, rfl⟩
    · repeat' first | simp (disch := omega) only [go_sem, hQr, hQn, hQp, wrapK_i64, wrapK_u8, wrapK_u64, Nat.reduceAdd, Nat.reduceBEq, ↓reduceIte, hru] | refine go_ ?_ | refine cf_ c ?_ | refine br_ (fun hw => ?_) (fun hw => ?_) <;> try omega | fail
      · rw [← hE, hae (by assumption)]
        exact leafN (view4 (view_r0 _))
      · refine ⟨(1, [.cells [.str t.name, .lst false EC (t.ins.map eCol), .lst false EC (t.outs.map eCol), I t.policy, I t.agg, .lst false ER (t.rules.map eRule)], .cells [.str [], .nils, .nils, I 0, I 0, .nils, .nils], .cells [.str t.name, .lst false EC (t.ins.map eCol), .lst false EC (t.outs.map eCol), I t.policy, I t.agg, .lst false ER (t.rules.map eRule), .own ER 5 1 0 1], .cells [.lst false E1 (ru.cells.map eStr), .lst false E1 (ru.outs.map eStr)], .cells [.lst false EC (a.1.cells.map eCell), .lst false EX (a.1.outs.map eExpr)], .vec ER [.agg [.lst false EC (a.1.cells.map eCell), .lst false EX (a.1.outs.map eExpr)]]]), ?_, ?_, ?_, ou_, at_⟩ <;> (try dsimp only)
        · refine ⟨by omega, hb2 (by assumption), .inr ⟨by omega, .cells [.lst false E1 (ru.cells.map eStr), .lst false E1 (ru.outs.map eStr)], .cells [.lst false EC (a.1.cells.map eCell), .lst false EX (a.1.outs.map eExpr)], [], ?_⟩⟩
          rw [hcl]; rfl
        · omega
        all_goals first | rfl | (simp [go_sem]; done)
    · obtain ⟨L, hL⟩ : ∃ L, lineL t k = L := ⟨_, rfl⟩
      rw [hL] at hll hcl
      simp only [hL]
      repeat' first | simp (disch := omega) only [go_sem, hQr, hQn, hQp, wrapK_i64, wrapK_u8, wrapK_u64, Nat.reduceAdd, Nat.reduceBEq, ↓reduceIte, hru, hll] | refine go_ ?_ | refine cf_ c ?_ | refine br_ (fun hw => ?_) (fun hw => ?_) <;> try omega | fail
      · rw [← hE, hae (by assumption)]
        exact leafN (view4 (view_r0 _))
      · refine ⟨(k + 1, .cells [.str t.name, .lst false EC (t.ins.map eCol), .lst false EC (t.outs.map eCol), I t.policy, I t.agg, .lst false ER (t.rules.map eRule)] :: .cells [.str [], .nils, .nils, I 0, I 0, .nils, .nils] :: .cells [.str t.name, .lst false EC (t.ins.map eCol), .lst false EC (t.outs.map eCol), I t.policy, I t.agg, .lst false ER (t.rules.map eRule), .own ER 5 (k + 1) 0 (k + 1)] :: b1 :: b2 :: .vec ER (L.map eLine ++ [.agg [.lst false EC (a.1.cells.map eCell), .lst false EX (a.1.outs.map eExpr)]]) :: (τ ++ [.cells [.lst false E1 (ru.cells.map eStr), .lst false E1 (ru.outs.map eStr)]] ++ [.cells [.lst false EC (a.1.cells.map eCell), .lst false EX (a.1.outs.map eExpr)]])), ?_, ?_, ?_, ou_, at_⟩ <;> (try dsimp only)
        · refine ⟨by omega, hb2 (by assumption), .inr ⟨by omega, b1, b2, τ ++ [.cells [.lst false E1 (ru.cells.map eStr), .lst false E1 (ru.outs.map eStr)]] ++ [.cells [.lst false EC (a.1.cells.map eCell), .lst false EX (a.1.outs.map eExpr)]], ?_⟩⟩
          rw [hcl, List.map_append]; (first | rfl | (simp [eLine, eCells, eExprs]; done))
        · omega
        all_goals first | rfl | (simp [go_sem]; done)
  · obtain rfl : k = t.rules.length := by omega
    have hok := makeS_ok hf0 h2
    rcases h3 with ⟨h0, rfl⟩ | ⟨hk, b1, b2, τ, rfl⟩
    · repeat' first | refine go_ ?_ | refine br_ (fun hw => ?_) (fun hw => ?_) <;> try omega | fail
      rw [← hE, hok, h0]
      exact leafN (view4 (View.agg' (.cons (.refl _ rfl) (.cons (.refl _ (pur_eCols _)) (.cons (.refl _ (pur_eCols _)) (.cons (.refl _ rfl) (.cons (.refl _ rfl) (.cons (.refl _ (pur_eRules _)) (.cons (.nils _) (.nil _))))))))))
    · have hll := len_lineL t t.rules.length
      obtain ⟨L, hL⟩ : ∃ L, lineL t t.rules.length = L := ⟨_, rfl⟩
      rw [hL] at hll hok
      simp only [hL]
      repeat' first | simp (disch := omega) only [go_sem, hQr, hQn, hQp, wrapK_i64, wrapK_u8, wrapK_u64, Nat.reduceAdd, Nat.reduceBEq, ↓reduceIte, hll] | refine go_ ?_ | refine br_ (fun hw => ?_) (fun hw => ?_) <;> try omega | fail
      rw [← hE, hok]
      exact leafN (view4 (View.agg' (.cons (.refl _ rfl) (.cons (.refl _ (pur_eCols _)) (.cons (.refl _ (pur_eCols _)) (.cons (.refl _ rfl) (.cons (.refl _ rfl) (.cons (.refl _ (pur_eRules _)) (.cons (View.vec rfl (by simp [hll]) (by simp [hll]) (purL_line _)) (.nil _))))))))))
set_option maxHeartbeats 4000000 in
theorem ref18_Make (t : Table) (h : okTab t) : CallF Tryz.prog n_ref18_Make [eTable t] (eR4 (makeS t)) := by
  have cf := ref18_frame t h
  obtain ⟨E, hE⟩ : ∃ E, eR4 (makeS t) = E := ⟨_, rfl⟩
  rw [hE]
  have hl := fun (h0 : 0 < t.ins.length) k (hk : k < t.rules.length) => ref18_rule t (t.rules.getD k default) h.2.1.1 h.2.2.1.1 h0 (h.2.2.2.2 _ (getD_mem hk))
  have hr30 := h.2.2.2.1
  simp only [eTable, cTable, eCols, eRules] at cf hl ⊢
  by_cases hf : frameS t ≠ 0
  · have hm := makeS_frame hf
    obtain ⟨f, hfe⟩ : ∃ f, frameS t = f := ⟨_, rfl⟩
    rw [hfe] at cf hm hf
    refine CallF.of_nil (of_ref18_Make (by simp) ?_) (by simp)
    unfold b_ref18_Make WpR
    intro Q hQr hQn hQp
    repeat' first | refine go_ ?_ | refine cf_ cf ?_ | refine br_ (fun hw => ?_) (fun hw => ?_) <;> try omega | fail
    all_goals first
      | exact ab_
      | (rw [← hE, hm]; exact leafN (view4 (view_r0 _)))
  have hf0 : frameS t = 0 := by omega
  have hi0 : 0 < t.ins.length := frameS_ins hf0
  rw [hf0] at cf
  replace hl := hl hi0
  clear hf
  refine CallF.of_nil (of_ref18_Make (by simp) ?_) (by simp)
  unfold b_ref18_Make WpR
  intro Q hQr hQn hQp
  repeat' first | refine go_ ?_ | refine cf_ cf ?_ | refine br_ (fun hw => ?_) (fun hw => ?_) <;> try omega | fail
  all_goals first | exact ab_ | skip
  with_reducible refine loop_i [3, 4, 5, 8, 9, 10, 11, 20, 21, 22, 23, 24, 25, 26, 27, 28, 29, 30, 31, 32, 33, 34, 35, 36, 37, 38, 39, 40, 41, 42, 43, 44, 45, 46, 47, 48, 49] (fun q : Nat × Store => [(8, I q.1)]) (fun q => q.2) (fun q => q.1 ≤ t.rules.length ∧ (∀ k, k < q.1 → (lineR t k).2.2 = 0) ∧ (q.1 = 0 ∧ q.2 = [.cells [.str t.name, .lst false EC (t.ins.map eCol), .lst false EC (t.outs.map eCol), I t.policy, I t.agg, .lst false ER (t.rules.map eRule)], .cells [.str [], .nils, .nils, I 0, I 0, .nils, .nils], .cells [.str t.name, .lst false EC (t.ins.map eCol), .lst false EC (t.outs.map eCol), I t.policy, I t.agg, .lst false ER (t.rules.map eRule), .nils]] ∨ 0 < q.1 ∧ ∃ b1 τ, q.2 = .cells [.str t.name, .lst false EC (t.ins.map eCol), .lst false EC (t.outs.map eCol), I t.policy, I t.agg, .lst false ER (t.rules.map eRule)] :: .cells [.str [], .nils, .nils, I 0, I 0, .nils, .nils] :: .cells [.str t.name, .lst false EC (t.ins.map eCol), .lst false EC (t.outs.map eCol), I t.policy, I t.agg, .lst false ER (t.rules.map eRule), .own ER 4 q.1 0 q.1] :: b1 :: .vec ER ((lineL t q.1).map eLine) :: τ)) (fun q => t.rules.length - q.1) (0, _) ⟨Nat.zero_le _, fun k hk => by omega, .inl ⟨rfl, rfl⟩⟩ rfl ?_ ?_
  · exact at_
  rintro ⟨k, S⟩ rr ⟨h1, h2, h3⟩
  dsimp only at h1 h2 h3
  by_cases hkl : k < t.rules.length
  · have c := hl k hkl
    have hae := fun he => makeS_line hf0 hkl h2 he
    have hcl := lineL_succ t k
    have hll := len_lineL t k
    have hb2 := fun he => before_succ (q := fun j => (lineR t j).2.2 = 0) h2 he
    have hlr : lineR t k = lineS t (t.rules.getD k default) := rfl
    obtain ⟨a, ha⟩ : ∃ a, lineR t k = a := ⟨_, rfl⟩
    rw [ha] at hae hcl hb2 hlr
    rw [← hlr] at c
    obtain ⟨ru, hru⟩ : ∃ ru, t.rules.getD k default = ru := ⟨_, rfl⟩
    rw [hru] at c
    clear hlr
    simp only [eLn, eLine, eCells, eExprs, eRule, eStrs] at c
    rcases h3 with ⟨rfl, rfl⟩ | ⟨hk, b1, τ, rfl⟩
    · repeat' first | simp (disch := omega) only [go_sem, hQr, hQn, hQp, wrapK_i64, wrapK_u8, wrapK_u64, Nat.reduceAdd, Nat.reduceBEq, ↓reduceIte, hru] | refine go_ ?_ | refine cf_ c ?_ | refine br_ (fun hw => ?_) (fun hw => ?_) <;> try omega | fail
      · rw [← hE, hae (by assumption)]
        exact leafN (view4 (view_r0 _))
      · refine ⟨(1, [.cells [.str t.name, .lst false EC (t.ins.map eCol), .lst false EC (t.outs.map eCol), I t.policy, I t.agg, .lst false ER (t.rules.map eRule)], .cells [.str [], .nils, .nils, I 0, I 0, .nils, .nils], .cells [.str t.name, .lst false EC (t.ins.map eCol), .lst false EC (t.outs.map eCol), I t.policy, I t.agg, .lst false ER (t.rules.map eRule), .own ER 4 1 0 1], .cells [.lst false EC (a.1.cells.map eCell), .lst false EX (a.1.outs.map eExpr)], .vec ER [.agg [.lst false EC (a.1.cells.map eCell), .lst false EX (a.1.outs.map eExpr)]]]), ?_, ?_, ?_, ou_, at_⟩ <;> (try dsimp only)
        · refine ⟨by omega, hb2 (by assumption), .inr ⟨by omega, .cells [.lst false EC (a.1.cells.map eCell), .lst false EX (a.1.outs.map eExpr)], [], ?_⟩⟩
          rw [hcl]; rfl
        · omega
        all_goals first | rfl | (simp [go_sem]; done)
    · obtain ⟨L, hL⟩ : ∃ L, lineL t k = L := ⟨_, rfl⟩
      rw [hL] at hll hcl
      simp only [hL]
      repeat' first | simp (disch := omega) only [go_sem, hQr, hQn, hQp, wrapK_i64, wrapK_u8, wrapK_u64, Nat.reduceAdd, Nat.reduceBEq, ↓reduceIte, hru, hll] | refine go_ ?_ | refine cf_ c ?_ | refine br_ (fun hw => ?_) (fun hw => ?_) <;> try omega | fail
      · rw [← hE, hae (by assumption)]
        exact leafN (view4 (view_r0 _))
      · refine ⟨(k + 1, .cells [.str t.name, .lst false EC (t.ins.map eCol), .lst false EC (t.outs.map eCol), I t.policy, I t.agg, .lst false ER (t.rules.map eRule)] :: .cells [.str [], .nils, .nils, I 0, I 0, .nils, .nils] :: .cells [.str t.name, .lst false EC (t.ins.map eCol), .lst false EC (t.outs.map eCol), I t.policy, I t.agg, .lst false ER (t.rules.map eRule), .own ER 4 (k + 1) 0 (k + 1)] :: b1 :: .vec ER (L.map eLine ++ [.agg [.lst false EC (a.1.cells.map eCell), .lst false EX (a.1.outs.map eExpr)]]) :: (τ ++ [.cells [.lst false EC (a.1.cells.map eCell), .lst false EX (a.1.outs.map eExpr)]])), ?_, ?_, ?_, ou_, at_⟩ <;> (try dsimp only)
        · refine ⟨by omega, hb2 (by assumption), .inr ⟨by omega, b1, τ ++ [.cells [.lst false EC (a.1.cells.map eCell), .lst false EX (a.1.outs.map eExpr)]], ?_⟩⟩
          rw [hcl, List.map_append]; (first | rfl | (simp [eLine, eCells, eExprs]; done))
        · omega
        all_goals first | rfl | (simp [go_sem]; done)
  · obtain rfl : k = t.rules.length := by omega
    have hok := makeS_ok hf0 h2
    rcases h3 with ⟨h0, rfl⟩ | ⟨hk, b1, τ, rfl⟩
    · repeat' first | refine go_ ?_ | refine br_ (fun hw => ?_) (fun hw => ?_) <;> try omega | fail
      rw [← hE, hok, h0]
      exact leafN (view4 (View.agg' (.cons (.refl _ rfl) (.cons (.refl _ (pur_eCols _)) (.cons (.refl _ (pur_eCols _)) (.cons (.refl _ rfl) (.cons (.refl _ rfl) (.cons (.refl _ (pur_eRules _)) (.cons (.nils _) (.nil _))))))))))
    · have hll := len_lineL t t.rules.length
      obtain ⟨L, hL⟩ : ∃ L, lineL t t.rules.length = L := ⟨_, rfl⟩
      rw [hL] at hll hok
      simp only [hL]
      repeat' first | simp (disch := omega) only [go_sem, hQr, hQn, hQp, wrapK_i64, wrapK_u8, wrapK_u64, Nat.reduceAdd, Nat.reduceBEq, ↓reduceIte, hll] | refine go_ ?_ | refine br_ (fun hw => ?_) (fun hw => ?_) <;> try omega | fail
      rw [← hE, hok]
      exact leafN (view4 (View.agg' (.cons (.refl _ rfl) (.cons (.refl _ (pur_eCols _)) (.cons (.refl _ (pur_eCols _)) (.cons (.refl _ rfl) (.cons (.refl _ rfl) (.cons (.refl _ (pur_eRules _)) (.cons (View.vec rfl (by simp [hll]) (by simp [hll]) (purL_line _)) (.nil _))))))))))
def sameCol (a b : Col) : Bool := a.name == b.name && decide (a.kind = b.kind) && eqL (fun x y => x == y) a.order b.order
def sameRule (a b : Rule) : Bool := eqL (fun x y => x == y) a.cells b.cells && eqL (fun x y => x == y) a.outs b.outs
def sameTab (a b : Table) : Bool := a.name == b.name && decide (a.policy = b.policy) && decide (a.agg = b.agg) && eqL sameCol a.ins b.ins && eqL sameCol a.outs b.outs && eqL sameRule a.rules b.rules
def sameLn (a b : Line) : Bool := eqL sameC a.cells b.cells && eqL sameS a.outs b.outs
def sameRdy (a b : Ready) : Bool := sameTab a.table b.table && eqL sameLn a.lines b.lines
def smCols (l : List Col) : Prop := l.length ≤ 2 ^ 60 ∧ ∀ c ∈ l, c.order.length ≤ 2 ^ 60
def smRule (r : Rule) : Prop := r.cells.length ≤ 2 ^ 60 ∧ r.outs.length ≤ 2 ^ 60
def smTab (t : Table) : Prop := smCols t.ins ∧ smCols t.outs ∧ t.rules.length ≤ 2 ^ 60 ∧ ∀ r ∈ t.rules, smRule r
def smLn (l : Line) : Prop := (l.cells.length ≤ 2 ^ 60 ∧ ∀ c ∈ l.cells, smC c) ∧ l.outs.length ≤ 2 ^ 60 ∧ ∀ x ∈ l.outs, brX x
def smLns (l : List Line) : Prop := l.length ≤ 2 ^ 60 ∧ ∀ x ∈ l, smLn x
theorem dtable_sameColumn (a b : Col) (ha : a.order.length ≤ 2 ^ 60) (hb : b.order.length ≤ 2 ^ 60) : CallF Tryz.prog n_dtable_sameColumn [eCol a, eCol b] (.bool (sameCol a b)) := by
  have c := slices_Equal_Value a.order b.order ha hb
  have hS : sameCol a b = (a.name == b.name && decide (a.kind = b.kind) && eqL (fun x y => x == y) a.order b.order) := rfl
  rw [hS]
  clear hS
  generalize eqL (fun x y => x == y) a.order b.order = v at *
  simp only [eCol, eVals] at c ⊢
  refine CallF.of_nil (of_dtable_sameColumn (by simp) ?_) (by simp)
  unfold b_dtable_sameColumn WpR
  intro Q hQr hQn hQp
  repeat' first | refine go_ ?_ | refine cf_ c ?_ | refine br_ (fun hw => ?_) (fun hw => ?_) <;> try omega | fail
  all_goals (refine leafE ?_ rfl; refine congrArg AV.bool ?_; rw [Bool.eq_iff_iff]; simp_all)
theorem ref18_sameColumns (l m : List Col) (hl : smCols l) (hm : smCols m) : CallF Tryz.prog n_ref18_sameColumns [eCols l, eCols m] (.bool (eqL sameCol l m)) := by
  obtain ⟨hl1, hl2⟩ := hl
  obtain ⟨hm1, hm2⟩ := hm
  simp only [eCols]
  refine CallF.of_nil (of_ref18_sameColumns (by simp) ?_) (by simp)
  unfold b_ref18_sameColumns WpR
  intro Q hQr hQn hQp
  repeat' first | refine go_ ?_ | refine br_ (fun hw => ?_) (fun hw => ?_) <;> try omega | fail
  · refine leafE ?_ rfl
    rw [eqL_len (by omega)]
  have hlm : l.length = m.length := by omega
  with_reducible refine loop_i [4, 5, 11, 12, 13, 14, 15, 16, 17, 18, 19, 20, 21, 22, 23, 24, 25, 26, 27, 28, 29, 30, 31, 32, 33, 34, 35, 36, 37, 38, 39, 40, 41, 42, 43, 44, 45, 46, 47, 48, 49, 50, 51, 52, 53, 54] (fun i : Nat => [(5, I i)]) (fun _ => []) (fun i => i ≤ l.length ∧ ∀ k, k < i → sameCol (l.getD k default) (m.getD k default) = true) (fun i => l.length - i) (0) ?_ ?_ ?_ ?_
  · simp
  · rfl
  · exact at_
  rintro i r ⟨h1, h2⟩
  by_cases hi : i < l.length
  · have hi' : i < m.length := by omega
    have hne : sameCol (l.getD i default) (m.getD i default) = false → eqL sameCol l m = false := fun h => eqL_at hi h hi'
    have hbs := fun he => before_succ h2 (i := i) he
    have c := ref12_SameRow (l.getD i default).order (m.getD i default).order (hl2 _ (getD_mem hi)) (hm2 _ (getD_mem hi'))
    obtain ⟨a, haq⟩ : ∃ t, l.getD i default = t := ⟨_, rfl⟩
    obtain ⟨b, hbq⟩ : ∃ t, m.getD i default = t := ⟨_, rfl⟩
    rw [haq] at hne hbs c
    rw [hbq] at hne hbs c
    simp only [sameCol] at hne hbs
    generalize eqL (fun x y => x == y) a.order b.order = v at *
    simp only [eVals] at c
    repeat' first | simp (disch := omega) only [go_sem, hQr, hQn, hQp, wrapK_i64, wrapK_u8, wrapK_u64, Nat.reduceAdd, Nat.reduceBEq, ↓reduceIte, haq, hbq] | refine go_ ?_ | refine cf_ c ?_ | refine br_ (fun hw => ?_) (fun hw => ?_) <;> try omega | fail
    all_goals first
      | (refine leafE ?_ rfl; rw [hne (by clear hne hbs; simp_all)]; done)
      | (refine ⟨i + 1, ?_, ?_, ?_, ou_, at_⟩ <;> (try dsimp only)
         · exact ⟨by omega, hbs (by clear hne hbs; simp_all)⟩
         · omega
         all_goals (first | rfl | (simp [go_sem]; done)))
      | exact ab_
  · repeat' first | refine go_ ?_ | refine br_ (fun hw => ?_) (fun hw => ?_) <;> try omega | fail
    refine leafE ?_ rfl
    rw [eqL_non hlm (fun k hk => h2 k (by omega))]
theorem ref18_sameLine (a b : Line) (ha : smLn a) (hb : smLn b) : CallF Tryz.prog n_ref18_sameLine [eLine a, eLine b] (.bool (sameLn a b)) := by
  obtain ⟨⟨a1, a2⟩, a3, a4⟩ := ha
  obtain ⟨⟨b1, b2⟩, b3, b4⟩ := hb
  obtain ⟨E, hE⟩ : ∃ E, sameLn a b = E := ⟨_, rfl⟩
  rw [hE]
  have hS : (eqL sameC a.cells b.cells && eqL sameS a.outs b.outs) = E := hE
  clear hE
  simp only [eLine, eCells, eExprs]
  by_cases hl : a.cells.length = b.cells.length ∧ a.outs.length = b.outs.length
  case neg =>
    refine CallF.of_nil (of_ref18_sameLine (by simp) ?_) (by simp)
    unfold b_ref18_sameLine WpR
    intro Q hQr hQn hQp
    repeat' first | refine go_ ?_ | refine br_ (fun hw => ?_) (fun hw => ?_) <;> try omega | fail
    all_goals first
      | exact ab_
      | (refine leafE ?_ rfl; rw [← hS, eqL_len (l := a.cells) (by omega)]; rfl)
      | (refine leafE ?_ rfl; rw [← hS, eqL_len (l := a.outs) (by omega), Bool.and_false])
  obtain ⟨hl1, hl2⟩ := hl
  refine CallF.of_nil (of_ref18_sameLine (by simp) ?_) (by simp)
  unfold b_ref18_sameLine WpR
  intro Q hQr hQn hQp
  repeat' first | refine go_ ?_ | refine br_ (fun hw => ?_) (fun hw => ?_) <;> try omega | fail
  all_goals first | exact ab_ | skip
  with_reducible refine loop_i [4, 5, 23, 24, 25, 26, 27, 28, 29, 30, 31, 32, 33, 34, 35, 36, 37, 38, 39, 40, 41] (fun i : Nat => [(5, I i)]) (fun _ => [.cells [.lst false EC (a.cells.map eCell), .lst false EX (a.outs.map eExpr)], .cells [.lst false EC (b.cells.map eCell), .lst false EX (b.outs.map eExpr)]]) (fun i => i ≤ a.cells.length ∧ ∀ k, k < i → sameC (a.cells.getD k default) (b.cells.getD k default) = true) (fun i => a.cells.length - i) (0) ?_ ?_ ?_ ?_
  · simp
  · rfl
  · exact at_
  rintro i r ⟨h1, h2⟩
  by_cases hi : i < a.cells.length
  · have c := ref17_Same _ _ (a2 _ (getD_mem hi)) (b2 _ (getD_mem (show i < b.cells.length by omega)))
    have hne := fun h => eqL_at (p := sameC) hi h (show i < b.cells.length by omega)
    have hbs := fun he => before_succ (q := fun k => sameC (a.cells.getD k default) (b.cells.getD k default) = true) h2 (i := i) he
    generalize sameC (a.cells.getD i default) (b.cells.getD i default) = v at c hne hbs
    simp only [eCell, eTests] at c
    repeat' first | refine go_ ?_ | refine cf_ c ?_ | refine br_ (fun hw => ?_) (fun hw => ?_) <;> try omega | fail
    all_goals first
      | exact ab_
      | (refine leafE ?_ rfl; rw [← hS, hne (by simp_all)]; rfl)
      | (refine ⟨i + 1, ?_, ?_, ?_, ou_, at_⟩ <;> (try dsimp only)
         · exact ⟨by omega, hbs (by simp_all)⟩
         · omega
         all_goals (first | rfl | (simp [go_sem]; done)))
  · have e1 := eqL_non hl1 (p := sameC) (fun k hk => h2 k (by omega))
    rw [e1, Bool.true_and] at hS
    repeat' first | refine go_ ?_ | refine br_ (fun hw => ?_) (fun hw => ?_) <;> try omega | fail
    with_reducible refine loop_i [4, 6, 42, 43, 44, 45, 46, 47, 48, 49, 50, 51, 52, 53, 54, 55, 56, 57, 58, 59, 60] (fun i : Nat => [(6, I i)]) (fun _ => [.cells [.lst false EC (a.cells.map eCell), .lst false EX (a.outs.map eExpr)], .cells [.lst false EC (b.cells.map eCell), .lst false EX (b.outs.map eExpr)]]) (fun i => i ≤ a.outs.length ∧ ∀ k, k < i → sameS (a.outs.getD k default) (b.outs.getD k default) = true) (fun i => a.outs.length - i) (0) ?_ ?_ ?_ ?_
    · simp
    · rfl
    · exact at_
    rintro j r2 ⟨g1, g2⟩
    by_cases hj : j < a.outs.length
    · have c := ref14_Same _ _ (a4 _ (getD_mem hj)) (b4 _ (getD_mem (show j < b.outs.length by omega)))
      have hne := fun h => eqL_at (p := sameS) hj h (show j < b.outs.length by omega)
      have hbs := fun he => before_succ (q := fun k => sameS (a.outs.getD k default) (b.outs.getD k default) = true) g2 (i := j) he
      generalize sameS (a.outs.getD j default) (b.outs.getD j default) = v at c hne hbs
      rw [eExpr_eq, eExpr_eq] at c
      try simp only [eExprs] at c
      repeat' first | refine go_ ?_ | refine cf_ c ?_ | refine br_ (fun hw => ?_) (fun hw => ?_) <;> try omega | fail
      all_goals first
        | exact ab_
        | (refine leafE ?_ rfl; rw [← hS, hne (by simp_all)])
        | (refine ⟨j + 1, ?_, ?_, ?_, ou_, at_⟩ <;> (try dsimp only)
           · exact ⟨by omega, hbs (by simp_all)⟩
           · omega
           all_goals (first | rfl | (simp [go_sem]; done)))
    · repeat' first | refine go_ ?_ | refine br_ (fun hw => ?_) (fun hw => ?_) <;> try omega | fail
      refine leafE ?_ rfl
      rw [← hS, eqL_non hl2 (fun k hk => g2 k (by omega))]
theorem ref18_SameLines (l m : List Line) (hl : smLns l) (hm : smLns m) : CallF Tryz.prog n_ref18_SameLines [eLines l, eLines m] (.bool (eqL sameLn l m)) := by
  obtain ⟨hl1, hl2⟩ := hl
  obtain ⟨hm1, hm2⟩ := hm
  simp only [eLines]
  refine CallF.of_nil (of_ref18_SameLines (by simp) ?_) (by simp)
  unfold b_ref18_SameLines WpR
  intro Q hQr hQn hQp
  repeat' first | refine go_ ?_ | refine br_ (fun hw => ?_) (fun hw => ?_) <;> try omega | fail
  · refine leafE ?_ rfl
    rw [eqL_len (by omega)]
  have hlm : l.length = m.length := by omega
  with_reducible refine loop_i [4, 5, 11, 12, 13, 14, 15, 16, 17, 18, 19, 20, 21, 22, 23, 24, 25, 26] (fun i : Nat => [(5, I i)]) (fun _ => []) (fun i => i ≤ l.length ∧ ∀ k, k < i → sameLn (l.getD k default) (m.getD k default) = true) (fun i => l.length - i) (0) ?_ ?_ ?_ ?_
  · simp
  · rfl
  · exact at_
  rintro i r ⟨h1, h2⟩
  by_cases hi : i < l.length
  · have c := ref18_sameLine _ _ (hl2 _ (getD_mem hi)) (hm2 _ (getD_mem (show i < m.length by omega)))
    have hne := fun h => eqL_at (p := sameLn) hi h (show i < m.length by omega)
    have hbs := fun he => before_succ (q := fun k => sameLn (l.getD k default) (m.getD k default) = true) h2 (i := i) he
    generalize sameLn (l.getD i default) (m.getD i default) = v at c hne hbs
    simp only [eLine, eCells, eExprs] at c
    repeat' first | refine go_ ?_ | refine cf_ c ?_ | refine br_ (fun hw => ?_) (fun hw => ?_) <;> try omega | fail
    all_goals first
      | exact ab_
      | (refine leafE ?_ rfl; rw [hne (by simp_all)])
      | (refine ⟨i + 1, ?_, ?_, ?_, ou_, at_⟩ <;> (try dsimp only)
         · exact ⟨by omega, hbs (by simp_all)⟩
         · omega
         all_goals (first | rfl | (simp [go_sem]; done)))
  · repeat' first | refine go_ ?_ | refine br_ (fun hw => ?_) (fun hw => ?_) <;> try omega | fail
    refine leafE ?_ rfl
    rw [eqL_non hlm (fun k hk => h2 k (by omega))]
end Go.Proofs.YthkhdedadacakaaGreatDoor
