/- Part of a proof: see Root. -/
import Derived.Test.YthkhdedadacakaaGreatDoorY17
set_option linter.unnecessarySimpa false
set_option linter.unusedSimpArgs false
set_option linter.unusedVariables false
namespace Go.Proofs.YthkhdedadacakaaGreatDoor
open Go.AM
set_option maxRecDepth 4000
@[go_sem ↓] theorem jumpQ_goto (l : Nat) (J : Env → Store → Prop) (Q : AQ) (e : Env) (σ : Store) : jumpQ l J Q (.goto l) e σ = J e σ := by simp [jumpQ]
theorem puts_at {e' : Env} : ∀ (l : List (Nat × AV)), At l e' → puts l e' = e'
  | [], _ => rfl
  | (d, v) :: l, h => by
    simp only [puts]
    rw [puts_at l (fun p hp => h p (List.mem_cons_of_mem _ hp))]
    exact upd_same (h (d, v) (by simp))
theorem scope_i {P : Program} {l : Nat} {c r : ACode} {Q : AQ} {e : Env} {σ : Store} {α : Type} (cs : α → List (Nat × AV)) (S : α → Store) (A : α → Prop) (μ : α → Nat)
    (hb : wpA P c (jumpQ l (fun e' σ' => ∃ x, A x ∧ σ' = S x ∧ At (cs x) e') Q) e σ)
    (hr : ∀ x r0, A x → wpA P r (jumpQ l (fun e' σ' => ∃ x', A x' ∧ μ x' < μ x ∧ σ' = S x' ∧ At (cs x') e') Q) (puts (cs x) r0) (S x)) : scopeK P (.mk : Tg (l, c, r, Q, e, σ)) := by
  refine ⟨fun n e' σ' => ∃ x, A x ∧ At (cs x) e' ∧ σ' = S x ∧ μ x = n, wpA_mono (fun ex e2 σ2 hq => ?_) _ _ hb, ?_⟩
  · cases ex <;> try exact hq
    obtain ⟨h1, x, a, hs, ht⟩ := hq
    exact ⟨h1, _, x, a, ht, hs, rfl⟩
  · rintro n e' σ' ⟨x1, a1, t1, rfl, rfl⟩
    have h := hr x1 e' a1
    rw [puts_at _ t1] at h
    refine wpA_mono (fun ex e2 σ2 hq => ?_) _ _ h
    cases ex <;> try exact hq
    obtain ⟨h1, x', a', hm, hs, ht⟩ := hq
    exact ⟨h1, _, hm, x', a', ht, hs, rfl⟩
def cellsX (op : Int) (zs : List AV) : List AV := [I op, I 0, I 0, .str [], .str [], .lst true EX zs]
theorem viewC {σ : Store} {op : Int} {zs : List AV} {l : List Expr} (h : ViewL [] zs (l.map eExpr)) : View σ (.agg (cellsX op zs)) (eExpr (.mk op v0 [] l)) :=
  View.mono (σ := []) (fun _ _ h => by simp at h) (viewX (View.lstL h))
theorem viewL2 {a b : AV} {x y : Expr} (h : View [] a (eExpr x)) (h2 : View [] b (eExpr y)) : ViewL [] [a, b] ([x, y].map eExpr) := .cons h (.cons h2 (.nil _))
theorem purL_cells {op : Int} {zs : List AV} (h : AV.purL zs = true) : AV.purL (cellsX op zs) = true := by simp [cellsX, AV.pur, AV.purL, h]
structure Lp where
  op : Int
  l : List Expr
  zs : List AV
  p : Nat
  f : Nat
theorem syntax_read_bad (T : List Tok) (lvl : Int) (p : Nat) : CallM Tryz.prog n_syntax_reader_read 0 [I lvl] (eRd T p true) (eRd T p true) (eExpr x0) := by
  generalize hE : eExpr x0 = E
  refine CallM.of_one (of_syntax_reader_read (by simp) ?_) rfl (purL_rd _ _ _)
  unfold b_syntax_reader_read WpR
  intro Q hQr hQn hQp
  repeat' first | refine go_ ?_ | refine br_ (fun hw => ?_) (fun hw => ?_) <;> try omega | fail
  exact leafS (by rw [← hE]; exact viewX (.nils _)) (ViewL.refl (purL_rd T p true))
theorem syntax_read_lv (T : List Tok) (hT : T.length ≤ 2 ^ 60) (rd : Nat → Nat → RS) (f lvl p : Nat) (h1 : 1 ≤ lvl) (h5 : lvl ≤ 5) (hp : p ≤ T.length) (hf : 8 * (T.length - p) + (8 - lvl) ≤ f) (hrd : rd = fun l q => rdF T f none l q)
    (ih : ∀ j, j ≤ f → ∀ l q, l ≤ 7 → q ≤ T.length → 8 * (T.length - q) + (8 - l) < j → RdC T n_syntax_reader_read (fun l q => rdF T j none l q) l q) :
    CallM Tryz.prog n_syntax_reader_read 0 [I lvl] (eRd T p false) (eRd T (rdF T (f + 1) none lvl p).p (rdF T (f + 1) none lvl p).bad) (eExpr (rdF T (f + 1) none lvl p).x) := by
  have ga := (goes_rd T f none (lvl + 1) p hp).1 rfl
  have ca := ih f (Nat.le_refl _) (lvl + 1) p (by omega) hp (by omega)
  simp only [RdC] at ca
  obtain ⟨ga1, ga2, ga3⟩ := ga
  have hR : rdF T (f + 1) none lvl p = if (rdF T f none (lvl + 1) p).bad then rdF T f none (lvl + 1) p else rdF T f (some (rdF T f none (lvl + 1) p).x) lvl (rdF T f none (lvl + 1) p).p := by
    rw [rdF]
    rw [if_neg (by omega), if_neg (by omega), if_neg (by omega)]
  generalize rdF T (f + 1) none lvl p = R at *
  generalize rdF T f none (lvl + 1) p = a at *
  obtain ⟨ax, ap, ab⟩ := a
  dsimp only at *
  have cb := syntax_binary T ap ab lvl (by omega)
  rw [eExpr_eq] at ca
  cases ab with
  | true =>
    simp only [if_true] at hR
    subst hR
    dsimp only
    have hn : opB T ap true lvl = none := by
      cases ho : opB T ap true lvl with
      | none => rfl
      | some o => have := (opB_lt ho).2.1; cases this
    simp only [opP, hn, opN, Option.isSome_none, Bool.false_eq_true, if_false] at cb
    generalize hE : eExpr ax = E
    simp only [eRd, Int.natCast_add, Int.cast_ofNat_Int] at ca cb
    refine CallM.of_one (of_syntax_reader_read (by simp) ?_) rfl (purL_rd _ _ _)
    unfold b_syntax_reader_read WpR
    intro Q hQr hQn hQp
    repeat' first | simp (disch := omega) only [go_sem, hQr, hQn, hQp, wrapK_i64, wrapK_u8, wrapK_u64, Nat.reduceAdd, Nat.reduceBEq, ↓reduceIte, Int.natCast_add, Int.cast_ofNat_Int] | refine go_ ?_ | refine cm_ ca ?_ | refine cm_ cb ?_ | refine br_ (fun hw => ?_) (fun hw => ?_) <;> try omega | fail
    exact leafS (by rw [← hE]; exact View.eqv (eExpr_eq _).symm (pur_eExpr _)) (ViewL.refl (purL_rd _ _ _))
  | false =>
    simp only [Bool.false_eq_true, if_false] at hR
    have gp := ga3 rfl
    obtain ⟨f, rfl⟩ : ∃ f', f = f' + 1 := ⟨f - 1, by omega⟩
    rw [rdF] at hR
    have e0 : ∀ σ : Store, View σ (.agg [I ax.op, I ax.v.kind, I ax.v.n, .str ax.v.s, .str ax.s, .lst false EX (ax.l.map eExpr)]) (eExpr ax) := fun σ => View.eqv (eExpr_eq _).symm (pur_eExpr _)
    cases ho : opB T ap false lvl with
    | none =>
      rw [ho] at hR
      dsimp only at hR
      subst hR
      dsimp only
      simp only [opP, ho, opN, Option.isSome_none, Bool.false_eq_true, if_false] at cb
      generalize hE : eExpr ax = E at *
      simp only [eRd, Int.natCast_add, Int.cast_ofNat_Int] at ca cb
      refine CallM.of_one (of_syntax_reader_read (by simp) ?_) rfl (purL_rd _ _ _)
      unfold b_syntax_reader_read WpR
      intro Q hQr hQn hQp
      repeat' first | simp (disch := omega) only [go_sem, hQr, hQn, hQp, wrapK_i64, wrapK_u8, wrapK_u64, Nat.reduceAdd, Nat.reduceBEq, ↓reduceIte, Int.natCast_add, Int.cast_ofNat_Int] | refine go_ ?_ | refine cm_ ca ?_ | refine cm_ cb ?_ | refine br_ (fun hw => ?_) (fun hw => ?_) <;> try omega | fail
      exact leafS (e0 _) (ViewL.refl (purL_rd _ _ _))
    | some o =>
      rw [ho] at hR
      dsimp only at hR
      obtain ⟨ho1, _, ho2, ho3⟩ := opB_lt ho
      have hop : o.op ≠ 0 := by
        intro h
        simp only [binL, List.mem_cons, List.not_mem_nil, or_false] at ho2
        rcases ho2 with rfl | rfl | rfl | rfl | rfl | rfl | rfl | rfl | rfl | rfl | rfl | rfl <;> simp at h
      have cc := ih f (by omega) (lvl + 1) (ap + 1) (by omega) (by omega) (by omega)
      have gc := (goes_rd T f none (lvl + 1) (ap + 1) (by omega)).1 rfl
      obtain ⟨gc1, gc2, gc3⟩ := gc
      simp only [RdC] at cc
      simp only [opP, ho, opN, Option.isSome_some, if_true] at cb
      generalize rdF T f none (lvl + 1) (ap + 1) = c at *
      obtain ⟨cx, cp, cbad⟩ := c
      dsimp only at *
      by_cases hend : lvl = 3 ∨ cbad = true
      · rw [if_pos hend] at hR
        subst hR
        dsimp only
        have e1 : ∀ σ : Store, View σ (.agg (cellsX o.op [.agg [I ax.op, I ax.v.kind, I ax.v.n, .str ax.v.s, .str ax.s, .lst false EX (ax.l.map eExpr)], eExpr cx])) (eExpr (.mk o.op v0 [] [ax, cx])) := fun σ => viewC (viewL2 (e0 _) (.refl _ (pur_eExpr _)))
        rw [eExpr_eq cx] at e1 cc
        generalize hE : eExpr (.mk o.op v0 [] [ax, cx]) = E at *
        simp only [eRd, Int.natCast_add, Int.cast_ofNat_Int] at ca cb cc
        have h3 : ¬ (¬ lvl = 3 ∧ cbad = false) := by rcases hend with h | h <;> simp [h]
        refine CallM.of_one (of_syntax_reader_read (by simp) ?_) rfl (purL_rd _ _ _)
        unfold b_syntax_reader_read WpR
        intro Q hQr hQn hQp
        rcases hend with hend | hend
        · subst hend
          repeat' first | simp (disch := omega) only [go_sem, hQr, hQn, hQp, wrapK_i64, wrapK_u8, wrapK_u64, Nat.reduceAdd, Nat.reduceBEq, ↓reduceIte, Int.natCast_add, Int.cast_ofNat_Int] | refine go_ ?_ | refine cm_ ca ?_ | refine cm_ cb ?_ | refine cm_ cc ?_ | refine br_ (fun hw => ?_) (fun hw => ?_) <;> try omega | fail
          all_goals first | exact leafS (e1 _) (ViewL.refl (purL_rd _ _ _)) | (exfalso; omega)
        · subst hend
          repeat' first | simp (disch := omega) only [go_sem, hQr, hQn, hQp, wrapK_i64, wrapK_u8, wrapK_u64, Nat.reduceAdd, Nat.reduceBEq, ↓reduceIte, Int.natCast_add, Int.cast_ofNat_Int] | refine go_ ?_ | refine cm_ ca ?_ | refine cm_ cb ?_ | refine cm_ cc ?_ | refine br_ (fun hw => ?_) (fun hw => ?_) <;> try omega | fail
          all_goals first | exact leafS (e1 _) (ViewL.refl (purL_rd _ _ _)) | (exfalso; omega)
      · rw [if_neg hend] at hR
        have hl3 : lvl ≠ 3 := fun h => hend (.inl h)
        have hcb : cbad = false := by cases cbad with
          | false => rfl
          | true => exact absurd (.inr rfl) hend
        subst hcb
        have e2 := e0 []
        rw [eExpr_eq cx] at cc
        simp only [eRd, Int.natCast_add, Int.cast_ofNat_Int] at ca cb cc
        have gq := gc3 rfl
        refine CallM.of_one (of_syntax_reader_read (by simp) ?_) rfl (purL_rd _ _ _)
        unfold b_syntax_reader_read WpR
        intro Q hQr hQn hQp
        repeat' first | refine gn_ ?_ | refine br_ (fun hw => ?_) (fun hw => ?_) <;> try omega | fail
        with_reducible refine scope_i (fun x : Lp => [(0, .ref 0 0), (1, I lvl), (4, .ref 1 0), (5, .ref 2 0)]) (fun x => [.cells [.lst false ET (T.map eTok), I x.p, .bool false], .cells [I 0, I 0, I 0, .str [], .str [], .nils], .cells [I x.op, I 0, I 0, .str [], .str [], .lst true EX x.zs]]) (fun x => (ViewL [] x.zs (x.l.map eExpr) ∧ AV.purL x.zs = true) ∧ x.p ≤ T.length ∧ 8 * (T.length - x.p) + 8 ≤ x.f ∧ x.f ≤ f ∧ R = rdF T x.f (some (.mk x.op v0 [] x.l)) lvl x.p) (fun x => x.f) ?_ ?_
        · repeat' first | simp (disch := omega) only [go_sem, hQr, hQn, hQp, wrapK_i64, wrapK_u8, wrapK_u64, Nat.reduceAdd, Nat.reduceBEq, ↓reduceIte, Int.natCast_add, Int.cast_ofNat_Int] | refine go_ ?_ | refine cm_ ca ?_ | refine cm_ cb ?_ | refine cm_ cc ?_ | refine br_ (fun hw => ?_) (fun hw => ?_) <;> try omega | fail
          refine ⟨⟨o.op, [ax, cx], [.agg [I ax.op, I ax.v.kind, I ax.v.n, .str ax.v.s, .str ax.s, .lst false EX (ax.l.map eExpr)], eExpr cx], cp, f⟩, ⟨⟨viewL2 e2 (.refl _ (pur_eExpr _)), by simp⟩, gc2, by dsimp only; omega, Nat.le_refl _, hR⟩, ?_, at_⟩
          rw [eExpr_eq cx]
        · clear ca cb cc
          rintro ⟨xop, xl, xz, xp, xf⟩ r0 ⟨⟨a1, a2⟩, a3, a4, a5, a6⟩
          dsimp only at a1 a2 a3 a4 a5 a6
          obtain ⟨j, rfl⟩ : ∃ j, xf = j + 1 := ⟨xf - 1, by omega⟩
          have cb := syntax_binary T xp false lvl (by omega)
          rw [rdF] at a6
          clear hR
          cases hq : opB T xp false lvl with
          | none =>
            rw [hq] at a6
            dsimp only at a6
            subst a6
            dsimp only at hQr hQn hQp
            simp only [opP, hq, opN, Option.isSome_none, Bool.false_eq_true, if_false, eRd, Int.natCast_add, Int.cast_ofNat_Int] at cb
            have ev : ∀ σ : Store, View σ (.agg (cellsX xop xz)) (eExpr (.mk xop v0 [] xl)) := fun σ => viewC a1
            generalize hE : eExpr (.mk xop v0 [] xl) = E at *
            repeat' first | simp (disch := omega) only [go_sem, hQr, hQn, hQp, wrapK_i64, wrapK_u8, wrapK_u64, Nat.reduceAdd, Nat.reduceBEq, ↓reduceIte, Int.natCast_add, Int.cast_ofNat_Int] | refine go_ ?_ | refine cm_ cb ?_ | refine br_ (fun hw => ?_) (fun hw => ?_) <;> try omega | fail
            exact leafS (ev _) (ViewL.refl (purL_rd _ _ _))
          | some o2 =>
            rw [hq] at a6
            dsimp only at a6
            obtain ⟨hp1, _, hp2, hp3⟩ := opB_lt hq
            have hop2 : o2.op ≠ 0 := by
              intro h
              simp only [binL, List.mem_cons, List.not_mem_nil, or_false] at hp2
              rcases hp2 with rfl | rfl | rfl | rfl | rfl | rfl | rfl | rfl | rfl | rfl | rfl | rfl <;> simp at h
            have cc := ih j (by omega) (lvl + 1) (xp + 1) (by omega) (by omega) (by omega)
            obtain ⟨gd1, gd2, gd3⟩ := (goes_rd T j none (lvl + 1) (xp + 1) (by omega)).1 rfl
            simp only [RdC] at cc
            simp only [opP, hq, opN, Option.isSome_some, if_true, eRd, Int.natCast_add, Int.cast_ofNat_Int] at cb
            generalize rdF T j none (lvl + 1) (xp + 1) = d at *
            obtain ⟨dx, dp, db⟩ := d
            dsimp only at *
            have e1 : ∀ σ : Store, View σ (.agg (cellsX o2.op [.agg (cellsX xop xz), eExpr dx])) (eExpr (.mk o2.op v0 [] [.mk xop v0 [] xl, dx])) := fun σ => viewC (viewL2 (viewC a1) (.refl _ (pur_eExpr _)))
            rw [eExpr_eq dx] at cc e1
            simp only [eRd, Int.natCast_add, Int.cast_ofNat_Int] at cc
            cases db with
            | true =>
              rw [if_pos (.inr rfl)] at a6
              subst a6
              dsimp only at hQr hQn hQp
              generalize hE : eExpr (.mk o2.op v0 [] [.mk xop v0 [] xl, dx]) = E at *
              repeat' first | simp (disch := omega) only [go_sem, hQr, hQn, hQp, wrapK_i64, wrapK_u8, wrapK_u64, Nat.reduceAdd, Nat.reduceBEq, ↓reduceIte, Int.natCast_add, Int.cast_ofNat_Int] | refine go_ ?_ | refine cm_ cb ?_ | refine cm_ cc ?_ | refine br_ (fun hw => ?_) (fun hw => ?_) <;> try omega | fail
              all_goals first | exact leafS (e1 _) (ViewL.refl (purL_rd _ _ _)) | (exfalso; omega)
            | false =>
              rw [if_neg (by simp [hl3])] at a6
              have gr := gd3 rfl
              repeat' first | simp (disch := omega) only [go_sem, hQr, hQn, hQp, wrapK_i64, wrapK_u8, wrapK_u64, Nat.reduceAdd, Nat.reduceBEq, ↓reduceIte, Int.natCast_add, Int.cast_ofNat_Int] | refine go_ ?_ | refine cm_ cb ?_ | refine cm_ cc ?_ | refine br_ (fun hw => ?_) (fun hw => ?_) <;> try omega | fail
              refine ⟨⟨o2.op, [.mk xop v0 [] xl, dx], [.agg (cellsX xop xz), eExpr dx], dp, j⟩, ⟨⟨viewL2 (viewC a1) (.refl _ (pur_eExpr _)), by simp [AV.pur, AV.purL, purL_cells a2, pur_eExpr]⟩, gd2, by dsimp only; omega, by dsimp only; omega, a6⟩, by dsimp only; omega, ?_, at_⟩
              rw [eExpr_eq dx]; rfl
theorem syntax_read (T : List Tok) (hT : T.length ≤ 2 ^ 60) (hs : ∀ q, (T.getD q default).s.length ≤ 2 ^ 62) : ∀ f, ∀ lvl p, lvl ≤ 7 → p ≤ T.length → 8 * (T.length - p) + (8 - lvl) < f → RdC T n_syntax_reader_read (fun l q => rdF T f none l q) lvl p := by
  intro f
  induction f using Nat.strongRecOn with
  | ind f ih =>
  intro lvl p hl hp hf
  obtain ⟨f, rfl⟩ : ∃ f', f = f' + 1 := ⟨f - 1, by omega⟩
  have ihf := ih f (Nat.lt_succ_self _)
  have hgo : ∀ l q, q ≤ T.length → Goes T.length q (rdF T f none l q) := fun l q hq => (goes_rd T f none l q hq).1 rfl
  simp only [RdC]
  by_cases h5 : 1 ≤ lvl ∧ lvl ≤ 5
  · exact syntax_read_lv T hT _ f lvl p h5.1 h5.2 hp (by omega) rfl (fun j hj l q h1 h2 h3 => ih j (by omega) l q h1 h2 h3)
  by_cases h0 : lvl = 0
  · subst h0
    have hR : rdF T (f + 1) none 0 p = if isT T p 1 [105, 102] then ifW (fun l q => rdF T f none l q) T (p + 1) else rdF T f none 1 p := by
      rw [rdF, if_pos rfl]
    by_cases hi : isT T p 1 [105, 102] = true
    · rw [if_pos hi] at hR
      have hp1 := isT_lt hi
      have co := syntax_on_is T p 1 [105, 102] true (by decide) (by omega) hi
      have cb := syntax_branch T (p + 1) (fun l q => rdF T f none l q) hp1 hT hgo (fun q => syntax_read_bad T 0 q) (fun q h1 h2 => ihf 0 q (by omega) h2 (by omega))
      rw [hR]
      generalize ifW (fun l q => rdF T f none l q) T (p + 1) = R at *
      simp only [if_true] at co
      generalize hE : eExpr R.x = E at *
      have hEc : ∃ cs, E = .agg cs := ⟨_, by rw [← hE, eExpr_eq]⟩
      have hEp : E.pur = true := by rw [← hE]; exact pur_eExpr _
      rw [← hE, eExpr_eq] at cb
      simp only [eRd, Int.natCast_add, Int.cast_ofNat_Int] at co cb
      refine CallM.of_one (of_syntax_reader_read (by simp) ?_) rfl (purL_rd _ _ _)
      unfold b_syntax_reader_read WpR
      intro Q hQr hQn hQp
      repeat' first | simp (disch := omega) only [go_sem, hQr, hQn, hQp, wrapK_i64, wrapK_u8, wrapK_u64, Nat.reduceAdd, Nat.reduceBEq, ↓reduceIte, Int.natCast_add, Int.cast_ofNat_Int] | refine go_ ?_ | refine cm_ co ?_ | refine cm_ cb ?_ | refine br_ (fun hw => ?_) (fun hw => ?_) <;> try omega | fail
      exact leafS (by rw [← hE]; exact View.eqv (eExpr_eq _).symm (pur_eExpr _)) (ViewL.refl (purL_rd _ _ _))
    · rw [if_neg hi] at hR
      have hi' : isT T p 1 [105, 102] = false := by simpa using hi
      have co := syntax_on_is T p 1 [105, 102] false (by decide) (by omega) hi'
      have cr := ihf 1 p (by omega) hp (by omega)
      rw [hR]
      simp only [RdC] at cr
      generalize rdF T f none 1 p = R at *
      generalize hE : eExpr R.x = E at *
      rw [← hE, eExpr_eq] at cr
      simp only [Bool.false_eq_true, if_false] at co
      simp only [eRd, Int.natCast_add, Int.cast_ofNat_Int] at co cr
      refine CallM.of_one (of_syntax_reader_read (by simp) ?_) rfl (purL_rd _ _ _)
      unfold b_syntax_reader_read WpR
      intro Q hQr hQn hQp
      repeat' first | simp (disch := omega) only [go_sem, hQr, hQn, hQp, wrapK_i64, wrapK_u8, wrapK_u64, Nat.reduceAdd, Nat.reduceBEq, ↓reduceIte, Int.natCast_add, Int.cast_ofNat_Int] | refine go_ ?_ | refine cm_ co ?_ | refine cm_ cr ?_ | refine br_ (fun hw => ?_) (fun hw => ?_) <;> try omega | fail
      exact leafS (by rw [← hE]; exact View.eqv (eExpr_eq _).symm (pur_eExpr _)) (ViewL.refl (purL_rd _ _ _))
  by_cases h6 : lvl = 6 ∧ isT T p 4 [45] = true
  · obtain ⟨rfl, hi⟩ := h6
    have hp1 := isT_lt hi
    have hR : rdF T (f + 1) none 6 p = ⟨.mk 3 v0 [] [(rdF T f none 6 (p + 1)).x], (rdF T f none 6 (p + 1)).p, (rdF T f none 6 (p + 1)).bad⟩ := by
      rw [rdF, if_neg h0, if_pos ⟨rfl, hi⟩]
    have co := syntax_on_is T p 4 [45] true (by decide) (by omega) hi
    have cr := ihf 6 (p + 1) (by omega) hp1 (by omega)
    rw [hR]
    simp only [RdC] at cr
    generalize rdF T f none 6 (p + 1) = R at *
    obtain ⟨rx, rp, rb⟩ := R
    dsimp only at *
    have e1 : ∀ σ : Store, View σ (.agg (cellsX 3 [eExpr rx])) (eExpr (.mk 3 v0 [] [rx])) := fun σ => viewC (.cons (.refl _ (pur_eExpr _)) (.nil _))
    rw [eExpr_eq rx] at e1 cr
    generalize hE : eExpr (.mk 3 v0 [] [rx]) = E at *
    simp only [if_true] at co
    simp only [eRd, Int.natCast_add, Int.cast_ofNat_Int] at co cr
    refine CallM.of_one (of_syntax_reader_read (by simp) ?_) rfl (purL_rd _ _ _)
    unfold b_syntax_reader_read WpR
    intro Q hQr hQn hQp
    repeat' first | simp (disch := omega) only [go_sem, hQr, hQn, hQp, wrapK_i64, wrapK_u8, wrapK_u64, Nat.reduceAdd, Nat.reduceBEq, ↓reduceIte, Int.natCast_add, Int.cast_ofNat_Int] | refine go_ ?_ | refine cm_ co ?_ | refine cm_ cr ?_ | refine br_ (fun hw => ?_) (fun hw => ?_) <;> try omega | fail
    exact leafS (e1 _) (ViewL.refl (purL_rd _ _ _))
  have h67 : 6 ≤ lvl := by omega
  have hR : rdF T (f + 1) none lvl p = atomW (fun l q => rdF T f none l q) T p := by
    rw [rdF, if_neg h0, if_neg h6, if_pos h67]
  have ca := syntax_atom T p (fun l q => rdF T f none l q) hp hT hs (fun h => ⟨ihf 0 (p + 1) (by omega) (isT_lt h) (by have := isT_lt h; omega), (hgo 0 (p + 1) (isT_lt h)).2.1⟩)
  rw [hR]
  have co := fun h => syntax_on_is T p 4 [45] false (by decide) (by omega) h
  have hno : lvl = 6 → isT T p 4 [45] = false := fun h => by
    cases hq : isT T p 4 [45] with
    | false => rfl
    | true => exact absurd ⟨h, hq⟩ h6
  generalize atomW (fun l q => rdF T f none l q) T p = R at *
  generalize hE : eExpr R.x = E at *
  rw [← hE, eExpr_eq] at ca
  simp only [Bool.false_eq_true, if_false] at co
  simp only [eRd, Int.natCast_add, Int.cast_ofNat_Int] at co ca
  refine CallM.of_one (of_syntax_reader_read (by simp) ?_) rfl (purL_rd _ _ _)
  unfold b_syntax_reader_read WpR
  intro Q hQr hQn hQp
  by_cases hl6 : lvl = 6
  · have co := co (hno hl6)
    subst hl6
    repeat' first | simp (disch := omega) only [go_sem, hQr, hQn, hQp, wrapK_i64, wrapK_u8, wrapK_u64, Nat.reduceAdd, Nat.reduceBEq, ↓reduceIte, Int.natCast_add, Int.cast_ofNat_Int] | refine go_ ?_ | refine cm_ co ?_ | refine cm_ ca ?_ | refine br_ (fun hw => ?_) (fun hw => ?_) <;> try omega | fail
    exact leafS (by rw [← hE]; exact View.eqv (eExpr_eq _).symm (pur_eExpr _)) (ViewL.refl (purL_rd _ _ _))
  · obtain rfl : lvl = 7 := by omega
    repeat' first | simp (disch := omega) only [go_sem, hQr, hQn, hQp, wrapK_i64, wrapK_u8, wrapK_u64, Nat.reduceAdd, Nat.reduceBEq, ↓reduceIte, Int.natCast_add, Int.cast_ofNat_Int] | refine go_ ?_ | refine cm_ ca ?_ | refine br_ (fun hw => ?_) (fun hw => ?_) <;> try omega | fail
    exact leafS (by rw [← hE]; exact View.eqv (eExpr_eq _).symm (pur_eExpr _)) (ViewL.refl (purL_rd _ _ _))
theorem szS_mk (op : Int) (v : Val) (s : Str) (l : List Expr) : szS (.mk op v s l) = szL l + 1 := by simp only [szS]
def szO : Option Expr → Nat
  | none => 1
  | some x => szS x
theorem sz_must {T : List Tok} {r : RS} {k : Int} {s : Str} : (mustR T r k s).x = r.x ∧ r.p ≤ (mustR T r k s).p := by
  refine ⟨rfl, ?_⟩
  simp only [mustR, onP]
  split <;> omega
theorem sz_rdB {rd : Nat → Nat → RS} {l q : Nat} {b : Bool} (h : szS (rd l q).x + 4 * q ≤ 1 + 4 * (rd l q).p) : szS (rdB rd l q b).x + 4 * q ≤ 1 + 4 * (rdB rd l q b).p := by
  unfold rdB
  split
  · simp [x0, szS, szL]
  · exact h
theorem sz_rd (T : List Tok) (f : Nat) : ∀ (m : Option Expr) (lvl p : Nat), p ≤ T.length → szS (rdF T f m lvl p).x + 4 * p ≤ szO m + 4 * (rdF T f m lvl p).p := by
  induction f with
  | zero =>
    intro m lvl p hp
    have : 1 ≤ szO m := by
      cases m with
      | none => exact Nat.le_refl _
      | some x => cases x; simp [szO, szS]
    simp only [rdF, x0, szS, szL]; omega
  | succ f ih =>
    intro m lvl p hp
    have hrd : ∀ l q, q ≤ T.length → szS (rdF T f none l q).x + 4 * q ≤ 1 + 4 * (rdF T f none l q).p := fun l q hq => ih none l q hq
    have hgo : ∀ l q, q ≤ T.length → Goes T.length q (rdF T f none l q) := fun l q hq => (goes_rd T f none l q hq).1 rfl
    cases m with
    | none =>
      simp only [rdF, szO]
      split
      · split
        · rename_i h
          have h1 := isT_lt h
          have ga := goes_ifA hgo (p := p + 1) h1
          have gb := goes_ifB hgo (p := p + 1) h1
          have a := hrd 0 (p + 1) h1
          have b := sz_rdB (b := (ifA (rdF T f none) T (p + 1)).bad) (hrd 0 _ ga.2.1)
          have c := sz_rdB (b := (ifB (rdF T f none) T (p + 1)).bad) (hrd 0 _ gb.2.1)
          have a2 := sz_must (T := T) (r := rdF T f none 0 (p + 1)) (k := 1) (s := thenS)
          have b2 := sz_must (T := T) (r := rdB (rdF T f none) 0 (ifA (rdF T f none) T (p + 1)).p (ifA (rdF T f none) T (p + 1)).bad) (k := 1) (s := elseS)
          have ea : (ifA (rdF T f none) T (p + 1)) = mustR T (rdF T f none 0 (p + 1)) 1 thenS := rfl
          have eb : (ifB (rdF T f none) T (p + 1)) = mustR T (rdB (rdF T f none) 0 (ifA (rdF T f none) T (p + 1)).p (ifA (rdF T f none) T (p + 1)).bad) 1 elseS := rfl
          have ec : (ifC (rdF T f none) T (p + 1)) = rdB (rdF T f none) 0 (ifB (rdF T f none) T (p + 1)).p (ifB (rdF T f none) T (p + 1)).bad := rfl
          show szS (.mk 16 v0 [] [(ifA (rdF T f none) T (p + 1)).x, (ifB (rdF T f none) T (p + 1)).x, (ifC (rdF T f none) T (p + 1)).x]) + 4 * p ≤ 1 + 4 * (ifC (rdF T f none) T (p + 1)).p
          rw [← ea] at a2
          rw [← eb] at b2
          rw [← ec] at c
          simp only [szS_mk, szL]
          rw [a2.1, b2.1]
          omega
        · exact hrd 1 p hp
      · split
        · rename_i h
          have h1 := isT_lt h.2
          have c := hrd 6 (p + 1) h1
          simp only [szS_mk, szL]; omega
        · split
          · have ok : ∀ v s, szS (.mk 1 v s []) + 4 * p ≤ 1 + 4 * (p + 1) := fun v s => by simp only [szS_mk, szL]; omega
            unfold atomW
            split
            · rename_i h
              have c := hrd 0 (p + 1) (isT_lt h)
              have a2 := sz_must (T := T) (r := rdF T f none 0 (p + 1)) (k := 4) (s := [41])
              show szS (mustR T (rdF T f none 0 (p + 1)) 4 [41]).x + 4 * p ≤ 1 + 4 * (mustR T (rdF T f none 0 (p + 1)) 4 [41]).p
              rw [a2.1]; omega
            · repeat' split
              all_goals simp only [valR, x0, szS_mk, szL]
              all_goals omega
          · split
            · exact hrd _ _ hp
            · have a := hrd (lvl + 1) p hp
              have b := ih (some (rdF T f none (lvl + 1) p).x) lvl _ (hgo (lvl + 1) p hp).2.1
              simp only [szO] at b
              omega
    | some x =>
      simp only [rdF, szO]
      split
      · exact Nat.le_refl _
      · rename_i o ho
        have h1 := (opB_lt ho).1
        have a := hrd (lvl + 1) (p + 1) h1
        have g := hgo (lvl + 1) (p + 1) h1
        split
        · simp only [szS_mk, szL]; omega
        · have b := ih (some (.mk o.op v0 [] [x, (rdF T f none (lvl + 1) (p + 1)).x])) lvl _ g.2.1
          simp only [szO, szS_mk, szL] at b
          omega
def readT (T : List Tok) (fr lvl : Int) : Expr × Int × Int :=
  if fr < 0 ∨ (T.length : Int) < fr ∨ lvl < 0 ∨ 7 < lvl then (x0, 0, 2)
  else if (rdF T (8 * T.length + 9) none lvl.toNat fr.toNat).bad then (x0, (rdF T (8 * T.length + 9) none lvl.toNat fr.toNat).p, 11)
  else ((rdF T (8 * T.length + 9) none lvl.toNat fr.toNat).x, (rdF T (8 * T.length + 9) none lvl.toNat fr.toNat).p, 0)
def eX3 (r : Expr × Int × Int) : AV := .tup [eExpr r.1, I r.2.1, I r.2.2]
theorem view3 {σ : Store} {a E : AV} {n m : Int} (h : View σ a E) : ViewL σ [a, I n, I m] [E, I n, I m] := .cons h (.cons (.refl _ rfl) (.cons (.refl _ rfl) (.nil _)))
theorem syntax_Read (T : List Tok) (fr lvl : Int) (hT : T.length ≤ 2 ^ 50) (hs : ∀ q, (T.getD q default).s.length ≤ 2 ^ 62) : CallF Tryz.prog n_syntax_Read [eToks T, I fr, I lvl] (eX3 (readT T fr lvl)) := by
  by_cases hg : fr < 0 ∨ (T.length : Int) < fr ∨ lvl < 0 ∨ 7 < lvl
  · have e : readT T fr lvl = (x0, 0, 2) := by unfold readT; rw [if_pos hg]
    rw [e]
    have e1 : ∀ σ : Store, View σ (.agg [I 0, I 0, I 0, .str [], .str [], .nils]) (eExpr x0) := fun σ => viewX (.nils _)
    simp only [eX3]
    generalize eExpr x0 = E at *
    refine CallF.of_nil (of_syntax_Read (by simp) ?_) (by simp)
    unfold b_syntax_Read WpR
    intro Q hQr hQn hQp
    repeat' first | refine go_ ?_ | refine br_ (fun hw => ?_) (fun hw => ?_) <;> try omega | fail
    all_goals first | exact leafN (view3 (e1 _)) | (exfalso; omega)
  · obtain ⟨p, rfl⟩ : ∃ p : Nat, fr = p := ⟨fr.toNat, by omega⟩
    obtain ⟨l, rfl⟩ : ∃ l : Nat, lvl = l := ⟨lvl.toNat, by omega⟩
    have cr := syntax_read T (by omega) hs (8 * T.length + 9) l p (by omega) (by omega) (by omega)
    have e : readT T p l = if (rdF T (8 * T.length + 9) none l p).bad then (x0, ((rdF T (8 * T.length + 9) none l p).p : Int), 11) else ((rdF T (8 * T.length + 9) none l p).x, ((rdF T (8 * T.length + 9) none l p).p : Int), 0) := by
      unfold readT; rw [if_neg hg, Int.toNat_natCast, Int.toNat_natCast]
    rw [e]
    simp only [RdC] at cr
    generalize rdF T (8 * T.length + 9) none l p = r at *
    obtain ⟨rx, rp, rb⟩ := r
    dsimp only at *
    have e1 : ∀ σ : Store, View σ (.agg [I 0, I 0, I 0, .str [], .str [], .nils]) (eExpr x0) := fun σ => viewX (.nils _)
    have e2 : ∀ σ : Store, View σ (.agg [I rx.op, I rx.v.kind, I rx.v.n, .str rx.v.s, .str rx.s, .lst false EX (rx.l.map eExpr)]) (eExpr rx) := fun σ => View.eqv (eExpr_eq _).symm (pur_eExpr _)
    rw [eExpr_eq] at cr
    simp only [eRd] at cr
    cases rb with
    | true =>
      simp only [if_true, eX3]
      generalize eExpr x0 = E at *
      refine CallF.of_nil (of_syntax_Read (by simp) ?_) (by simp)
      unfold b_syntax_Read WpR
      intro Q hQr hQn hQp
      repeat' first | refine go_ ?_ | refine cm_ cr ?_ | refine br_ (fun hw => ?_) (fun hw => ?_) <;> try omega | fail
      all_goals first | exact leafN (view3 (e1 _)) | (exfalso; omega)
    | false =>
      simp only [Bool.false_eq_true, if_false, eX3]
      generalize eExpr rx = E at *
      refine CallF.of_nil (of_syntax_Read (by simp) ?_) (by simp)
      unfold b_syntax_Read WpR
      intro Q hQr hQn hQp
      repeat' first | refine go_ ?_ | refine cm_ cr ?_ | refine br_ (fun hw => ?_) (fun hw => ?_) <;> try omega | fail
      all_goals first | exact leafN (view3 (e2 _)) | (exfalso; omega)
theorem textF_s (r b : Str) (i : Nat) : (textF r b i).s.length ≤ b.length + r.length := by
  fun_induction textF r b i <;> simp_all [PR.err] <;> omega
theorem oneP_s (s : Str) : (oneP s).s.length ≤ s.length + 2 := by
  unfold oneP
  simp only
  split
  · unfold nameP; split <;> simp [PR.err]; omega
  · split
    · unfold numberP
      simp only
      split
      · simp [PR.err]
      · split <;> simp [PR.err]
    · split
      · have := textF_s (s.drop 1) [] 1
        rw [List.length_drop] at this
        simp only [List.length_nil] at this
        omega
      · unfold markP
        split
        · rename_i m hm
          have h2 := List.mem_of_find?_eq_some hm
          simp only [marksL, List.mem_cons, List.not_mem_nil, or_false] at h2
          rcases h2 with h | h | h | h | h | h | h | h | h | h | h | h | h | h | h | h <;> subst h <;> simp
        · simp [PR.err]
theorem lexF_facts (f : Nat) : ∀ (s : Str) (pos : Nat) (acc : List Tok), (∀ t ∈ acc, t.s.length ≤ 1000) → s.length ≤ 900 → (lexF f s pos acc).1.length ≤ acc.length + s.length ∧ ∀ t ∈ (lexF f s pos acc).1, t.s.length ≤ 1000 := by
  induction f with
  | zero => intro s pos acc h _; exact ⟨Nat.le_add_right _ _, h⟩
  | succ f ih =>
    intro s pos acc h hs
    cases s with
    | nil => exact ⟨Nat.le_add_right _ _, h⟩
    | cons c r =>
      rw [lexF_cons]
      simp only [List.length_cons] at hs ⊢
      split
      · have := ih r (pos + 1) acc h (by omega)
        exact ⟨by omega, this.2⟩
      · split
        · rename_i he
          have h1 := oneP_len (s := c :: r) (by simp) he
          have h2 := oneP_s (c :: r)
          simp only [List.length_cons] at h1 h2
          have := ih ((c :: r).drop (oneP (c :: r)).len) (pos + (oneP (c :: r)).len) (acc ++ [⟨(oneP (c :: r)).kind, (oneP (c :: r)).s, (oneP (c :: r)).n, pos⟩]) (fun t ht => by
            rcases List.mem_append.1 ht with ht | ht
            · exact h t ht
            · simp only [List.mem_cons, List.not_mem_nil, or_false] at ht; subst ht; dsimp only; omega) (by rw [List.length_drop, List.length_cons]; omega)
          rw [List.length_drop, List.length_append, List.length_cons] at this
          simp only [List.length_cons, List.length_nil] at this
          exact ⟨by omega, this.2⟩
        · exact ⟨Nat.zero_le _, fun t ht => by cases ht⟩
theorem lexS_facts (s : Str) : (lexS s).1.length ≤ 200 ∧ ∀ q, ((lexS s).1.getD q default).s.length ≤ 1000 := by
  have h : (lexS s).1.length ≤ 200 ∧ ∀ t ∈ (lexS s).1, t.s.length ≤ 1000 := by
    unfold lexS
    split
    · exact ⟨Nat.zero_le _, fun t ht => by cases ht⟩
    · have := lexF_facts (s.length + 1) s 0 [] (fun t ht => by cases ht) (by omega)
      simp only [List.length_nil] at this
      exact ⟨by omega, this.2⟩
  refine ⟨h.1, fun q => ?_⟩
  by_cases hq : q < (lexS s).1.length
  · exact h.2 _ (getD_mem hq)
  · rw [getD_out (by omega)]; exact Nat.zero_le _
theorem readT_sz (T : List Tok) (fr lvl : Int) : szS (readT T fr lvl).1 ≤ 1 + 4 * T.length := by
  have h0 : szS x0 = 1 := by simp [x0, szS, szL]
  unfold readT
  split
  · dsimp only; omega
  · rename_i hg
    split
    · dsimp only; omega
    · have := sz_rd T (8 * T.length + 9) none lvl.toNat fr.toNat (by omega)
      have g := (goes_rd T (8 * T.length + 9) none lvl.toNat fr.toNat (by omega)).2.2
      simp only [szO] at this
      dsimp only; omega
def parseS (s : Str) : Expr × Int × Int :=
  if (lexS s).2.2 ≠ 0 then (x0, (lexS s).2.1, (lexS s).2.2)
  else if (readT (lexS s).1 0 0).2.1 < (lexS s).1.length then (x0, ((lexS s).1.getD (readT (lexS s).1 0 0).2.1.toNat default).pos, 11)
  else if (readT (lexS s).1 0 0).2.2 ≠ 0 then (x0, s.length, (readT (lexS s).1 0 0).2.2)
  else if 12 < deepS (readT (lexS s).1 0 0).1 then (x0, 0, 12)
  else ((readT (lexS s).1 0 0).1, 0, 0)
theorem readT_p (T : List Tok) (fr lvl : Int) : 0 ≤ (readT T fr lvl).2.1 ∧ (readT T fr lvl).2.1 ≤ T.length := by
  unfold readT
  split
  · exact ⟨Int.le_refl _, by dsimp only; omega⟩
  · rename_i hg
    have g := (goes_rd T (8 * T.length + 9) none lvl.toNat fr.toNat (by omega)).2.2
    split <;> (dsimp only; omega)
theorem syntax_Parse (s : Str) (hs : s.length ≤ 2 ^ 30) : CallF Tryz.prog n_syntax_Parse [.str s] (eX3 (parseS s)) := by
  have cl := lex_Lex s hs
  obtain ⟨f1, f2⟩ := lexS_facts s
  have cr := syntax_Read (lexS s).1 0 0 (by omega) (fun q => by have := f2 q; omega)
  have hz := readT_sz (lexS s).1 0 0
  obtain ⟨hp0, hp1⟩ := readT_p (lexS s).1 0 0
  have hP : parseS s = if (lexS s).2.2 ≠ 0 then (x0, (lexS s).2.1, (lexS s).2.2)
    else if (readT (lexS s).1 0 0).2.1 < (lexS s).1.length then (x0, ((lexS s).1.getD (readT (lexS s).1 0 0).2.1.toNat default).pos, 11)
    else if (readT (lexS s).1 0 0).2.2 ≠ 0 then (x0, (s.length : Int), (readT (lexS s).1 0 0).2.2)
    else if 12 < deepS (readT (lexS s).1 0 0).1 then (x0, 0, 12)
    else ((readT (lexS s).1 0 0).1, 0, 0) := rfl
  rw [hP]
  clear hP f2
  generalize readT (lexS s).1 0 0 = r at *
  generalize lexS s = L at *
  obtain ⟨T, la, le⟩ := L
  obtain ⟨rx, rn, re⟩ := r
  dsimp only at *
  have cd := syntax_Deep rx (by omega)
  obtain ⟨n, rfl⟩ : ∃ n : Nat, rn = n := ⟨rn.toNat, by omega⟩
  have e1 : ∀ σ : Store, View σ (.agg [I 0, I 0, I 0, .str [], .str [], .nils]) (eExpr x0) := fun σ => viewX (.nils _)
  have e2 : ∀ σ : Store, View σ (.agg [I rx.op, I rx.v.kind, I rx.v.n, .str rx.v.s, .str rx.s, .lst false EX (rx.l.map eExpr)]) (eExpr rx) := fun σ => View.eqv (eExpr_eq _).symm (pur_eExpr _)
  simp only [eX3] at cr ⊢
  rw [eExpr_eq] at cr cd
  simp only [eLex, eToks] at cl cr
  by_cases h1 : le ≠ 0
  · rw [if_pos h1]
    generalize eExpr x0 = E at *
    refine CallF.of_nil (of_syntax_Parse (by simp) ?_) (by simp)
    unfold b_syntax_Parse WpR
    intro Q hQr hQn hQp
    repeat' first | refine go_ ?_ | refine cf_ cl ?_ | refine br_ (fun hw => ?_) (fun hw => ?_) <;> try omega | fail
    all_goals exact leafN (view3 (e1 _))
  rw [if_neg h1]
  by_cases h2 : (n : Int) < T.length
  · rw [if_pos h2, Int.toNat_natCast]
    generalize eExpr x0 = E at *
    have hn : n < T.length := by omega
    refine CallF.of_nil (of_syntax_Parse (by simp) ?_) (by simp)
    unfold b_syntax_Parse WpR
    intro Q hQr hQn hQp
    repeat' first | refine go_ ?_ | refine cf_ cl ?_ | refine cf_ cr ?_ | refine br_ (fun hw => ?_) (fun hw => ?_) <;> try omega | fail
    all_goals exact leafN (view3 (e1 _))
  rw [if_neg h2]
  by_cases h3 : re ≠ 0
  · rw [if_pos h3]
    generalize eExpr x0 = E at *
    refine CallF.of_nil (of_syntax_Parse (by simp) ?_) (by simp)
    unfold b_syntax_Parse WpR
    intro Q hQr hQn hQp
    repeat' first | refine go_ ?_ | refine cf_ cl ?_ | refine cf_ cr ?_ | refine br_ (fun hw => ?_) (fun hw => ?_) <;> try omega | fail
    all_goals exact leafN (view3 (e1 _))
  rw [if_neg h3]
  by_cases h4 : 12 < deepS rx
  · rw [if_pos h4]
    generalize eExpr x0 = E at *
    refine CallF.of_nil (of_syntax_Parse (by simp) ?_) (by simp)
    unfold b_syntax_Parse WpR
    intro Q hQr hQn hQp
    repeat' first | refine go_ ?_ | refine cf_ cl ?_ | refine cf_ cr ?_ | refine cf_ cd ?_ | refine br_ (fun hw => ?_) (fun hw => ?_) <;> try omega | fail
    all_goals exact leafN (view3 (e1 _))
  · rw [if_neg h4]
    generalize eExpr rx = E at *
    refine CallF.of_nil (of_syntax_Parse (by simp) ?_) (by simp)
    unfold b_syntax_Parse WpR
    intro Q hQr hQn hQp
    repeat' first | refine go_ ?_ | refine cf_ cl ?_ | refine cf_ cr ?_ | refine cf_ cd ?_ | refine br_ (fun hw => ?_) (fun hw => ?_) <;> try omega | fail
    all_goals exact leafN (view3 (e2 _))
def nullS : Str := [110, 117, 108, 108]
def trueS : Str := [116, 114, 117, 101]
def falseS : Str := [102, 97, 108, 115, 101]
structure Lq where
  op : Int
  vk : Int
  vn : Int
  vs : Str
  s : Str
  fl : Bool
  zs : List AV
  x : Expr
  p : Nat
  b : Bool
  f : Nat
def Lq.cs (q : Lq) : List AV := [I q.op, I q.vk, I q.vn, .str q.vs, .str q.s, .lst q.fl EX q.zs]
def eI (n : Int) : AV := I n
attribute [go_sem] eI
theorem pur_eI (n : Int) : (eI n).pur = true := rfl
theorem purL_i (l : List Int) : AV.purL (l.map eI) = true := purL_map _ _ pur_eI
def fitsK (a b : Int) : Bool := decide (a = b) || decide (a = 0) || decide (b = 0)
def orK (a b : Int) : Int := if a = 0 then b else a
theorem typing_Fits (a b : Int) : CallF Tryz.prog n_typing_Fits [I a, I b] (.bool (fitsK a b)) := by
  refine CallF.of_nil (of_typing_Fits (by simp) ?_) rfl
  unfold b_typing_Fits WpR
  intro Q hQr hQn hQp
  repeat' first | refine go_ ?_ | refine br_ (fun hw => ?_) (fun hw => ?_) <;> try omega | fail
  all_goals refine leafE ?_ rfl
  all_goals (refine congrArg AV.bool ?_; rw [Bool.eq_iff_iff]; simp only [fitsK, Bool.and_eq_true, Bool.or_eq_true, decide_eq_true_eq, beq_iff_eq, Bool.not_eq_true', decide_eq_false_iff_not, beq_eq_false_iff_ne, ne_eq, true_iff, false_iff, iff_true, iff_false, Bool.false_eq_true, Bool.true_eq_false, not_and, not_or] at *; omega)
theorem ref15_Fits (a b : Int) : CallF Tryz.prog n_ref15_Fits [I a, I b] (.bool (fitsK a b)) := by
  refine CallF.of_nil (of_ref15_Fits (by simp) ?_) rfl
  unfold b_ref15_Fits WpR
  intro Q hQr hQn hQp
  repeat' first | refine go_ ?_ | refine br_ (fun hw => ?_) (fun hw => ?_) <;> try omega | fail
  all_goals refine leafE ?_ rfl
  all_goals (refine congrArg AV.bool ?_; rw [Bool.eq_iff_iff]; simp only [fitsK, Bool.and_eq_true, Bool.or_eq_true, decide_eq_true_eq, beq_iff_eq, Bool.not_eq_true', decide_eq_false_iff_not, beq_eq_false_iff_ne, ne_eq, true_iff, false_iff, iff_true, iff_false, Bool.false_eq_true, Bool.true_eq_false, not_and, not_or] at *; omega)
theorem typing_either (a b : Int) : CallF Tryz.prog n_typing_either_Kind [I a, I b] (I (orK a b)) := by
  refine CallF.of_nil (of_typing_either_Kind (by simp) ?_) rfl
  unfold b_typing_either_Kind WpR
  intro Q hQr hQn hQp
  repeat' first | refine go_ ?_ | refine br_ (fun hw => ?_) (fun hw => ?_) <;> try omega | fail
  all_goals refine leafE ?_ rfl
  all_goals (unfold orK; first | rw [if_neg (by assumption)] | rw [if_pos (by assumption)] | (subst a; rfl))
theorem ref15_or (a b : Int) : CallF Tryz.prog n_ref15_or [I a, I b] (I (orK a b)) := by
  refine CallF.of_nil (of_ref15_or (by simp) ?_) rfl
  unfold b_ref15_or WpR
  intro Q hQr hQn hQp
  repeat' first | refine go_ ?_ | refine br_ (fun hw => ?_) (fun hw => ?_) <;> try omega | fail
  all_goals refine leafE ?_ rfl
  all_goals (unfold orK; first | rw [if_neg (by assumption)] | rw [if_pos (by assumption)] | (subst a; rfl))
theorem any_all {α : Type} {p : α → Bool} (l : List α) : l.all p = !(l.any fun x => !(p x)) := by
  induction l with
  | nil => rfl
  | cons x r ih => simp [ih]
theorem typing_all (w : Int) (l : List Int) (hl : l.length ≤ 2 ^ 60) : CallF Tryz.prog n_typing_all [I w, .lst false E1 (l.map eI)] (.bool (l.all fun k => fitsK k w)) := by
  refine CallF.of_nil (of_typing_all (by simp) ?_) (by simp [AV.pur, AV.purL, purL_i])
  unfold b_typing_all WpR
  intro Q hQr hQn hQp
  repeat' first | refine go_ ?_ | refine br_ (fun hw => ?_) (fun hw => ?_) <;> try omega | fail
  with_reducible refine loop_i [4, 6, 9, 10, 11, 12, 13, 14, 15, 16, 17] (fun i : Nat => [(9, I i)]) (fun _ => []) (fun i => i ≤ l.length ∧ ∀ k, k < i → (!(fitsK (l.getD k default) w)) = false) (fun i => l.length - i) (0) ?_ ?_ ?_ ?_
  · simp
  · rfl
  · exact at_
  rintro i r ⟨h1, h2⟩
  by_cases hi : i < l.length
  · repeat' first | refine go_ ?_ | refine cf_ (typing_Fits _ _) ?_ | refine br_ (fun hw => ?_) (fun hw => ?_) <;> try omega | fail
    · refine leafE ?_ rfl
      rw [any_all, any_at (p := fun x => !(fitsK x w)) hi (by simpa using hw)]; rfl
    · refine ⟨i + 1, ?_, ?_, by first | rfl | (simp [go_sem]; done), ou_, at_⟩ <;> (try dsimp only)
      · exact ⟨by omega, before_succ h2 (by simpa using hw)⟩
      · omega
  · repeat' first | refine go_ ?_ | refine br_ (fun hw => ?_) (fun hw => ?_) <;> try omega | fail
    refine leafE ?_ rfl
    rw [any_all, any_non (p := fun x => !(fitsK x w)) (fun k hk => h2 k (by omega))]; rfl
theorem slices_Index_Kind (l : List Int) (v : Int) (hl : l.length ≤ 2 ^ 60) : CallF Tryz.prog n_slices_Index_Kind [.lst false E1 (l.map eI), I v] (I (idxF (fun x => x == v) l)) := by
  refine CallF.of_nil (of_slices_Index_Kind (by simp) ?_) (by simp [AV.pur, AV.purL, purL_i])
  unfold b_slices_Index_Kind WpR
  intro Q hQr hQn hQp
  repeat' first | refine go_ ?_ | refine br_ (fun hw => ?_) (fun hw => ?_) <;> try omega | fail
  with_reducible refine loop_i [4, 5, 8, 9, 10, 11, 12, 13, 14, 15, 16, 17, 18] (fun i : Nat => [(8, I i)]) (fun _ => []) (fun i => i ≤ l.length ∧ ∀ k, k < i → (l.getD k default == v) = false) (fun i => l.length - i) (0) ?_ ?_ ?_ ?_
  · simp
  · rfl
  · exact at_
  rintro i r ⟨h1, h2⟩
  by_cases hi : i < l.length
  · repeat' first | refine go_ ?_ | refine br_ (fun hw => ?_) (fun hw => ?_) <;> try omega | fail
    · refine leafE ?_ rfl
      rw [idxF_at (p := fun x => x == v) hi h2 (by simp_all)]
    · refine ⟨i + 1, ?_, ?_, by first | rfl | (simp [go_sem]; done), ou_, at_⟩ <;> (try dsimp only)
      · exact ⟨by omega, before_succ h2 (by rw [beq_eq_false_iff_ne]; intro h; exact hw h.symm)⟩
      · omega
  · repeat' first | refine go_ ?_ | refine br_ (fun hw => ?_) (fun hw => ?_) <;> try omega | fail
    refine leafE ?_ rfl
    rw [idxF_none (p := fun x => x == v) (fun k hk => h2 k (by omega))]
theorem slices_Contains_Kind (l : List Int) (v : Int) (hl : l.length ≤ 2 ^ 60) : CallF Tryz.prog n_slices_Contains_Kind [.lst false E1 (l.map eI), I v] (.bool (decide (0 ≤ idxF (fun x => x == v) l))) := by
  refine CallF.of_nil (of_slices_Contains_Kind (by simp) ?_) (by simp [AV.pur, AV.purL, purL_i])
  unfold b_slices_Contains_Kind WpR
  intro Q hQr hQn hQp
  repeat' first | refine go_ ?_ | refine cf_ (slices_Index_Kind l v hl) ?_ | refine br_ (fun hw => ?_) (fun hw => ?_) <;> try omega | fail
  all_goals exact leafE rfl rfl
def typS (op : Int) (ks : List Int) : Int × Bool :=
  if op = 3 ∨ op = 5 ∨ op = 6 ∨ op = 7 then (1, ks.all fun k => fitsK k 1)
  else if op = 4 then (if orK (ks.getD 0 0) (ks.getD 1 0) = 2 then (2, ks.all fun k => fitsK k 2) else (1, ks.all fun k => fitsK k 1))
  else if op = 8 ∨ op = 9 then (3, fitsK (ks.getD 0 0) (ks.getD 1 0))
  else if op = 10 ∨ op = 11 ∨ op = 12 ∨ op = 13 then (3, fitsK (ks.getD 0 0) (ks.getD 1 0) && !(decide (0 ≤ idxF (fun x => x == 3) ks)))
  else if op = 14 ∨ op = 15 then (3, ks.all fun k => fitsK k 3)
  else (orK (ks.getD 1 0) (ks.getD 2 0), fitsK (ks.getD 0 0) 3 && fitsK (ks.getD 1 0) (ks.getD 2 0))
theorem typing_rule1 (a : Int) : CallF Tryz.prog n_typing_rule [I 3, .lst false E1 ([a].map eI)] (.tup [I (typS 3 [a]).1, .bool (typS 3 [a]).2]) := by
  have h := fun w => typing_all w [a] (by simp)
  simp only [List.map, eI] at h ⊢
  refine CallF.of_nil (of_typing_rule (by simp) ?_) rfl
  unfold b_typing_rule WpR
  intro Q hQr hQn hQp
  repeat' first | simp (disch := omega) only [go_sem, hQr, hQn, hQp, wrapK_i64, wrapK_u8, wrapK_u64, Nat.reduceAdd, Nat.reduceBEq, ↓reduceIte, Int.reduceToNat] | refine go_ ?_ | refine cf_ (h _) ?_ | refine br_ (fun hw => ?_) (fun hw => ?_) <;> try omega | fail
  all_goals exact leafNE rfl rfl
theorem typing_rule2 (op a b : Int) (h4 : 4 ≤ op) (h15 : op ≤ 15) : CallF Tryz.prog n_typing_rule [I op, .lst false E1 ([a, b].map eI)] (.tup [I (typS op [a, b]).1, .bool (typS op [a, b]).2]) := by
  have h := fun w => typing_all w [a, b] (by simp)
  have hc := slices_Contains_Kind [a, b] 3 (by simp)
  simp only [List.map, eI] at h hc ⊢
  generalize hR : typS op [a, b] = R
  refine CallF.of_nil (of_typing_rule (by simp) ?_) rfl
  unfold b_typing_rule WpR
  intro Q hQr hQn hQp
  repeat' first | simp (disch := omega) only [go_sem, hQr, hQn, hQp, wrapK_i64, wrapK_u8, wrapK_u64, Nat.reduceAdd, Nat.reduceBEq, ↓reduceIte, Int.reduceToNat] | refine go_ ?_ | refine cf_ (h _) ?_ | refine cf_ hc ?_ | refine cf_ (typing_either a b) ?_ | refine cf_ (typing_Fits a b) ?_ | refine br_ (fun hw => ?_) (fun hw => ?_) <;> try omega | fail
  all_goals (refine leafNE ?_ rfl; clear hQr hQn hQp h hc; subst hR)
  all_goals (simp_all [typS]; done)
theorem typing_rule3 (a b c : Int) : CallF Tryz.prog n_typing_rule [I 16, .lst false E1 ([a, b, c].map eI)] (.tup [I (typS 16 [a, b, c]).1, .bool (typS 16 [a, b, c]).2]) := by
  simp only [List.map, eI]
  refine CallF.of_nil (of_typing_rule (by simp) ?_) rfl
  unfold b_typing_rule WpR
  intro Q hQr hQn hQp
  repeat' first | simp (disch := omega) only [go_sem, hQr, hQn, hQp, wrapK_i64, wrapK_u8, wrapK_u64, Nat.reduceAdd, Nat.reduceBEq, ↓reduceIte, Int.reduceToNat] | refine go_ ?_ | refine cf_ (typing_either b c) ?_ | refine cf_ (typing_Fits a 3) ?_ | refine cf_ (typing_Fits b c) ?_ | refine br_ (fun hw => ?_) (fun hw => ?_) <;> try omega | fail
  all_goals (refine leafNE ?_ rfl; simp_all [typS])
def typR (op : Int) (ks : List Int) : Int × Int := if (typS op ks).2 then ((typS op ks).1, 0) else (0, 14)
theorem idx3 (a b : Int) : decide (0 ≤ idxF (fun x => x == 3) [a, b]) = (decide (a = 3) || decide (b = 3)) := by
  by_cases h1 : a = 3
  · subst h1; simp [idxF, List.findIdx?_cons]
  · by_cases h2 : b = 3
    · subst h2; simp [idxF, List.findIdx?_cons, h1]
    · simp [idxF, List.findIdx?_cons, h1, h2]
theorem ref15_of1 (a : Int) : CallF Tryz.prog n_ref15_of [I 3, .lst false E1 ([a].map eI)] (.tup [I (typR 3 [a]).1, I (typR 3 [a]).2]) := by
  simp only [List.map, eI]
  generalize hR : typR 3 [a] = R
  refine CallF.of_nil (of_ref15_of (by simp) ?_) rfl
  unfold b_ref15_of WpR
  intro Q hQr hQn hQp
  repeat' first | simp (disch := omega) only [go_sem, hQr, hQn, hQp, wrapK_i64, wrapK_u8, wrapK_u64, Nat.reduceAdd, Nat.reduceBEq, ↓reduceIte, Int.reduceToNat] | refine go_ ?_ | refine cf_ (ref15_Fits _ _) ?_ | refine br_ (fun hw => ?_) (fun hw => ?_) <;> try omega | fail
  all_goals (refine leafNE ?_ rfl; clear hQr hQn hQp; subst hR; simp_all [typR, typS])
theorem ref15_of2 (op a b : Int) (h4 : 4 ≤ op) (h15 : op ≤ 15) : CallF Tryz.prog n_ref15_of [I op, .lst false E1 ([a, b].map eI)] (.tup [I (typR op [a, b]).1, I (typR op [a, b]).2]) := by
  simp only [List.map, eI]
  generalize hR : typR op [a, b] = R
  refine CallF.of_nil (of_ref15_of (by simp) ?_) rfl
  unfold b_ref15_of WpR
  intro Q hQr hQn hQp
  repeat' first | simp (disch := omega) only [go_sem, hQr, hQn, hQp, wrapK_i64, wrapK_u8, wrapK_u64, Nat.reduceAdd, Nat.reduceBEq, ↓reduceIte, Int.reduceToNat] | refine go_ ?_ | refine cf_ (ref15_Fits _ _) ?_ | refine cf_ (ref15_or _ _) ?_ | refine br_ (fun hw => ?_) (fun hw => ?_) <;> try omega | fail
  all_goals (refine leafNE ?_ rfl; clear hQr hQn hQp; subst hR)
  all_goals first | (simp_all [typR, typS, idx3]; done) | skip
theorem ref15_of3 (a b c : Int) : CallF Tryz.prog n_ref15_of [I 16, .lst false E1 ([a, b, c].map eI)] (.tup [I (typR 16 [a, b, c]).1, I (typR 16 [a, b, c]).2]) := by
  simp only [List.map, eI]
  generalize hR : typR 16 [a, b, c] = R
  refine CallF.of_nil (of_ref15_of (by simp) ?_) rfl
  unfold b_ref15_of WpR
  intro Q hQr hQn hQp
  repeat' first | simp (disch := omega) only [go_sem, hQr, hQn, hQp, wrapK_i64, wrapK_u8, wrapK_u64, Nat.reduceAdd, Nat.reduceBEq, ↓reduceIte, Int.reduceToNat] | refine go_ ?_ | refine cf_ (ref15_Fits _ _) ?_ | refine cf_ (ref15_or _ _) ?_ | refine br_ (fun hw => ?_) (fun hw => ?_) <;> try omega | fail
  all_goals (refine leafNE ?_ rfl; clear hQr hQn hQp; subst hR; simp_all [typR, typS])
end Go.Proofs.YthkhdedadacakaaGreatDoor
