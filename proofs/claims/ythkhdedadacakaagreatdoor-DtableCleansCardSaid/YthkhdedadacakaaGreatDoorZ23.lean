/- Part of a proof: see Root. -/
import Derived.Test.YthkhdedadacakaaGreatDoorZ22
set_option linter.unnecessarySimpa false
set_option linter.unusedSimpArgs false
set_option linter.unusedVariables false
namespace Go.Proofs.YthkhdedadacakaaGreatDoor
open Go.AM
set_option maxRecDepth 4000
theorem view_c0 {σ : Store} : View σ (.agg [.bool false, .bool false, .nils]) (eCell c0) := View.agg' (.cons (.refl _ rfl) (.cons (.refl _ rfl) (.cons (.nils _) (.nil _))))
theorem view_cAny {σ : Store} : View σ (.agg [.bool true, .bool false, .nils]) (eCell cAny) := View.agg' (.cons (.refl _ rfl) (.cons (.refl _ rfl) (.cons (.nils _) (.nil _))))
theorem isDash (T : List Tok) (p : Nat) : onT T p false 4 [45] = (markT T p == [45]) := by
  rw [onT_mark T p false [45] (by decide), Bool.eq_iff_iff]; simp
set_option maxHeartbeats 1000000 in
theorem cell_Parse (s : Str) (hs : s.length ≤ 2 ^ 30) : CallF Tryz.prog n_cell_Parse [.str s] (eC3 (parseC s)) := by
  have cl := lex_Lex s hs
  obtain ⟨f1, f2⟩ := lexS_facts s
  have cm := cell_mark (lexS s).1 0 false
  have cr := cell_cell (lexS s).1 (by omega) (fun q => by have := f2 q; omega)
  have hok := cellR_ok (lexS_ok s) (by omega)
  have cc := cell_Check _ hok
  have hp1 := cellR_p (lexS s).1
  have hd := isDash (lexS s).1 0
  have hP : parseC s = if (lexS s).2.2 ≠ 0 then (c0, (lexS s).2.1, (lexS s).2.2)
    else if (lexS s).1.length = 1 ∧ onT (lexS s).1 0 false 4 [45] = true then (cAny, 0, 0)
    else if (cellR (lexS s).1).p < (lexS s).1.length then (c0, ((lexS s).1.getD (cellR (lexS s).1).p default).pos, 11)
    else if (cellR (lexS s).1).bad = true then (c0, (s.length : Int), 11)
    else if 12 < (cellR (lexS s).1).ts.length then (c0, 0, 24)
    else if rightC ⟨false, notT (lexS s).1, (cellR (lexS s).1).ts⟩ = false then (c0, 0, 12)
    else (⟨false, notT (lexS s).1, (cellR (lexS s).1).ts⟩, 0, 0) := rfl
  rw [hP, hd]
  clear hP f2 hd hok
  generalize rightC ⟨false, notT (lexS s).1, (cellR (lexS s).1).ts⟩ = rb at *
  generalize cellR (lexS s).1 = r at *
  generalize markT (lexS s).1 0 = mt at *
  generalize notT (lexS s).1 = n at *
  generalize lexS s = L at *
  obtain ⟨T, la, le⟩ := L
  obtain ⟨rts, rp, rbad⟩ := r
  dsimp only at *
  simp only [eC3] at ⊢
  simp only [eLex, eToks] at cl
  simp only [eRd, Int.cast_ofNat_Int] at cm cr
  simp only [eCell, eTests] at cr cc
  have e1 : ∀ σ : Store, View σ (.agg [.bool false, .bool false, .nils]) (eCell c0) := fun σ => view_c0
  have e2 : ∀ σ : Store, View σ (.agg [.bool true, .bool false, .nils]) (eCell cAny) := fun σ => view_cAny
  have e3 : ∀ σ : Store, View σ (.agg [.bool false, .bool n, .lst false ES (rts.map eTest)]) (eCell ⟨false, n, rts⟩) := fun σ => View.eqv rfl (pur_eCell _)
  by_cases h1 : le ≠ 0
  · rw [if_pos h1]
    generalize eCell c0 = E at *
    refine CallF.of_nil (of_cell_Parse (by simp) ?_) (by simp)
    unfold b_cell_Parse WpR
    intro Q hQr hQn hQp
    repeat' first | refine go_ ?_ | refine cf_ cl ?_ | refine br_ (fun hw => ?_) (fun hw => ?_) <;> try omega | fail
    all_goals exact leafN (view3 (e1 _))
  rw [if_neg h1]
  by_cases h2 : T.length = 1 ∧ (mt == [45]) = true
  · rw [if_pos h2]
    generalize eCell cAny = E2 at *
    obtain ⟨h2, h3⟩ := h2
    refine CallF.of_nil (of_cell_Parse (by simp) ?_) (by simp)
    unfold b_cell_Parse WpR
    intro Q hQr hQn hQp
    repeat' first | simp (disch := omega) only [go_sem, hQr, hQn, hQp, wrapK_i64, wrapK_u8, wrapK_u64, Nat.reduceAdd, Nat.reduceBEq, ↓reduceIte, h2, h3] | refine go_ ?_ | refine cf_ cl ?_ | refine cm_ cm ?_ | refine br_ (fun hw => ?_) (fun hw => ?_) <;> try omega | fail
    all_goals first | exact leafN (view3 (e2 _)) | exact ab_
  rw [if_neg h2]
  by_cases h4 : rp < T.length
  · rw [if_pos h4]
    generalize eCell c0 = E at *
    refine CallF.of_nil (of_cell_Parse (by simp) ?_) (by simp)
    unfold b_cell_Parse WpR
    intro Q hQr hQn hQp
    repeat' first | refine go_ ?_ | refine cf_ cl ?_ | refine cm_ cm ?_ | refine cm_ cr ?_ | refine br_ (fun hw => ?_) (fun hw => ?_) <;> try omega | fail
    all_goals first | exact leafN (view3 (e1 _)) | exact ab_
  rw [if_neg h4]
  by_cases h5 : rbad = true
  · rw [if_pos h5]
    subst h5
    generalize eCell c0 = E at *
    refine CallF.of_nil (of_cell_Parse (by simp) ?_) (by simp)
    unfold b_cell_Parse WpR
    intro Q hQr hQn hQp
    repeat' first | refine go_ ?_ | refine cf_ cl ?_ | refine cm_ cm ?_ | refine cm_ cr ?_ | refine br_ (fun hw => ?_) (fun hw => ?_) <;> try omega | fail
    all_goals first | exact leafN (view3 (e1 _)) | exact ab_
  rw [if_neg h5]
  obtain rfl : rbad = false := by simpa using h5
  by_cases h6 : 12 < rts.length
  · rw [if_pos h6]
    generalize eCell c0 = E at *
    refine CallF.of_nil (of_cell_Parse (by simp) ?_) (by simp)
    unfold b_cell_Parse WpR
    intro Q hQr hQn hQp
    repeat' first | refine go_ ?_ | refine cf_ cl ?_ | refine cm_ cm ?_ | refine cm_ cr ?_ | refine br_ (fun hw => ?_) (fun hw => ?_) <;> try omega | fail
    all_goals first | exact leafN (view3 (e1 _)) | exact ab_
  rw [if_neg h6]
  cases rb with
  | false =>
    rw [if_pos rfl]
    generalize eCell c0 = E at *
    simp only [errB, Bool.false_eq_true, if_false] at cc
    refine CallF.of_nil (of_cell_Parse (by simp) ?_) (by simp)
    unfold b_cell_Parse WpR
    intro Q hQr hQn hQp
    repeat' first | refine go_ ?_ | refine cf_ cl ?_ | refine cm_ cm ?_ | refine cm_ cr ?_ | refine cf_ cc ?_ | refine br_ (fun hw => ?_) (fun hw => ?_) <;> try omega | fail
    all_goals first | exact leafN (view3 (e1 _)) | exact ab_
  | true =>
    rw [if_neg (by simp)]
    generalize eCell ⟨false, n, rts⟩ = E3 at *
    simp only [errB, if_true] at cc
    refine CallF.of_nil (of_cell_Parse (by simp) ?_) (by simp)
    unfold b_cell_Parse WpR
    intro Q hQr hQn hQp
    repeat' first | refine go_ ?_ | refine cf_ cl ?_ | refine cm_ cm ?_ | refine cm_ cr ?_ | refine cf_ cc ?_ | refine br_ (fun hw => ?_) (fun hw => ?_) <;> try omega | fail
    all_goals first | exact leafN (view3 (e3 _)) | exact ab_
def c2_ref17_Parse : ACode :=  .seq (.block 2 (.seq (.region [⟨.mv (.t 8), (some 103), none⟩, ⟨.nilck (.t 103), (some 104), none⟩, ⟨.faddr 1 (.t 104), (some 105), none⟩, ⟨.load false 1 (.t 105), (some 106), none⟩, ⟨.mv (.t 5), (some 107), none⟩, ⟨.len false (.t 107), (some 108), none⟩, ⟨.bin .lss (.t 106) (.t 108), (some 109), none⟩, ⟨.mv (.t 109), (some 102), none⟩]) <|
  .cond (.t 102) (.seq (.draw [⟨.build [(.bool false), (.bool false), .nils] [], (some 110), none⟩, ⟨.mv (.t 5), (some 111), none⟩, ⟨.mv (.t 8), (some 112), none⟩, ⟨.nilck (.t 112), (some 113), none⟩, ⟨.faddr 1 (.t 113), (some 114), none⟩, ⟨.load false 1 (.t 114), (some 115), none⟩, ⟨.iaddr ⟨true, 4⟩ none (.t 111) (.t 115), (some 116), none⟩, ⟨.faddr 3 (.t 116), (some 117), none⟩, ⟨.load false 1 (.t 117), (some 118), none⟩, ⟨.store 3 (.t 2) (.t 110), none, none⟩, ⟨.mv (.t 118), (some 3), none⟩, ⟨.mv (.c (.int .i64 11)), (some 4), none⟩] [((.t 114), (.t 2)), ((.t 117), (.t 2))]) <|
  .ret) (.seq (.region [⟨.mv (.t 8), (some 120), none⟩, ⟨.nilck (.t 120), (some 121), none⟩, ⟨.faddr 2 (.t 121), (some 122), none⟩, ⟨.load false 1 (.t 122), (some 123), none⟩, ⟨.mv (.t 123), (some 119), none⟩]) <|
  .cond (.t 119) (.seq (.region [⟨.build [(.bool false), (.bool false), .nils] [], (some 124), none⟩, ⟨.mv (.t 0), (some 125), none⟩, ⟨.len true (.t 125), (some 126), none⟩, ⟨.store 3 (.t 2) (.t 124), none, none⟩, ⟨.mv (.t 126), (some 3), none⟩, ⟨.mv (.c (.int .i64 11)), (some 4), none⟩]) <|
  .ret) (.seq (.region [⟨.faddr 2 (.t 9), (some 128), none⟩, ⟨.load false 1 (.t 128), (some 129), none⟩, ⟨.len false (.t 129), (some 130), none⟩, ⟨.bin .gtr (.t 130) (.c (.int .i64 12)), (some 131), none⟩, ⟨.mv (.t 131), (some 127), none⟩]) <|
  .cond (.t 127) (.seq (.region [⟨.build [(.bool false), (.bool false), .nils] [], (some 132), none⟩, ⟨.store 3 (.t 2) (.t 132), none, none⟩, ⟨.mv (.c (.int .i64 0)), (some 3), none⟩, ⟨.mv (.c (.int .i64 24)), (some 4), none⟩]) <|
  .ret) (.seq (.region [⟨.load true 3 (.t 9), (some 134), none⟩, ⟨.call false (.c (.fn (.func n_ref17_Right) [] [])) [(.t 134)], (some 135), none⟩, ⟨.un .not (.t 135), (some 136), none⟩, ⟨.mv (.t 136), (some 133), none⟩]) <|
  .cond (.t 133) (.seq (.region [⟨.build [(.bool false), (.bool false), .nils] [], (some 137), none⟩, ⟨.store 3 (.t 2) (.t 137), none, none⟩, ⟨.mv (.c (.int .i64 0)), (some 3), none⟩, ⟨.mv (.c (.int .i64 12)), (some 4), none⟩]) <|
  .ret) (.skip)))))) <|
  .seq (.region [⟨.load true 3 (.t 9), (some 138), none⟩, ⟨.store 3 (.t 2) (.t 138), none, none⟩, ⟨.mv (.c (.int .i64 0)), (some 3), none⟩, ⟨.mv (.c (.int .i64 0)), (some 4), none⟩]) <|
  .ret
def c1_ref17_Parse : ACode :=  .seq (.draw [⟨.faddr 2 (.t 9), (some 68), none⟩, ⟨.load false 1 (.t 68), (some 69), none⟩, ⟨.mv (.t 8), (some 70), none⟩, ⟨.meth (.c (.fn (.func n_ref17_reader_test) [] [])) [(.t 70)], (some 71), none⟩, ⟨.bslice false ⟨true, 15⟩ (.agg [(.int .i64 0), (.int .i64 0), (.int .i64 0), (.int .i64 0), (.str []), (.str []), .nils, (.int .i64 0), (.int .i64 0), (.int .i64 0), (.str []), (.str []), .nils, (.bool false), (.bool false)]) 1 [(0, (.t 71))], (some 72), none⟩, ⟨.app none ⟨true, 15⟩ (.t 69) (.t 72), (some 73), none⟩, ⟨.faddr 2 (.t 9), (some 74), none⟩, ⟨.store 1 (.t 74) (.t 73), none, none⟩] [((.t 68), (.t 70))]) <|
  .seq (.block 0 (.loop (.seq (.seq (.region [⟨.mv (.t 8), (some 75), none⟩, ⟨.call false (.c (.fn (.func n_ref17_reader_is) [] [])) [(.t 75), (.c (.str [44]))], (some 76), none⟩]) <|
  .cond (.t 76) (.skip) (.exit 0)) <|
  .block 1 (.seq (.region [⟨.mv (.t 8), (some 77), none⟩, ⟨.nilck (.t 77), (some 78), none⟩, ⟨.faddr 1 (.t 78), (some 79), none⟩, ⟨.load false 1 (.t 79), (some 80), none⟩, ⟨.bin .add (.t 80) (.c (.int .i64 1)), (some 81), none⟩, ⟨.nilck (.t 77), (some 82), none⟩, ⟨.faddr 1 (.t 82), (some 83), none⟩, ⟨.store 1 (.t 83) (.t 81), none, none⟩]) <|
  .draw [⟨.faddr 2 (.t 9), (some 84), none⟩, ⟨.load false 1 (.t 84), (some 85), none⟩, ⟨.mv (.t 8), (some 86), none⟩, ⟨.meth (.c (.fn (.func n_ref17_reader_test) [] [])) [(.t 86)], (some 87), none⟩, ⟨.bslice false ⟨true, 15⟩ (.agg [(.int .i64 0), (.int .i64 0), (.int .i64 0), (.int .i64 0), (.str []), (.str []), .nils, (.int .i64 0), (.int .i64 0), (.int .i64 0), (.str []), (.str []), .nils, (.bool false), (.bool false)]) 1 [(0, (.t 87))], (some 88), none⟩, ⟨.app none ⟨true, 15⟩ (.t 85) (.t 88), (some 89), none⟩, ⟨.faddr 2 (.t 9), (some 90), none⟩, ⟨.store 1 (.t 90) (.t 89), none, none⟩] [((.t 84), (.t 86))])))) <|
  .seq (.seq (.region [⟨.faddr 1 (.t 9), (some 91), none⟩, ⟨.load false 1 (.t 91), (some 92), none⟩, ⟨.mv (.t 92), (some 93), none⟩, ⟨.mv (.t 8), (some 94), some (93, true)⟩, ⟨.nilck (.t 94), (some 95), some (93, true)⟩, ⟨.faddr 2 (.t 95), (some 96), some (93, true)⟩, ⟨.load false 1 (.t 96), (some 97), some (93, true)⟩, ⟨.un .not (.t 97), (some 98), some (93, true)⟩, ⟨.pick (.t 93) (.t 98) (.c (.bool false)), (some 99), none⟩]) <|
  .cond (.t 99) (.region [⟨.mv (.t 8), (some 100), none⟩, ⟨.call false (.c (.fn (.func n_ref17_reader_must) [] [])) [(.t 100), (.c (.str [41]))], (some 101), none⟩]) (.skip)) <|
  c2_ref17_Parse
theorem cut_ref17_Parse : b_ref17_Parse = (.seq (.region [⟨.alloc none [(.bool false), (.bool false), .nils], (some 2), none⟩, ⟨.mv (.c (.int .i64 0)), (some 3), none⟩, ⟨.mv (.c (.int .i64 0)), (some 4), none⟩]) <|
  .seq (.region [⟨.mv (.t 0), (some 11), none⟩, ⟨.call false (.c (.fn (.func n_ref13_Lex) [] [])) [(.t 11)], (some 12), none⟩, ⟨.mv (.t 12), (some 10), none⟩, ⟨.ext (.t 10) 0, (some 13), none⟩, ⟨.ext (.t 10) 1, (some 14), none⟩, ⟨.ext (.t 10) 2, (some 15), none⟩, ⟨.mv (.t 13), (some 5), none⟩, ⟨.mv (.t 14), (some 6), none⟩, ⟨.mv (.t 15), (some 7), none⟩]) <|
  .seq (.seq (.region [⟨.mv (.t 7), (some 16), none⟩, ⟨.bin .neq (.t 16) (.c (.int .i64 0)), (some 17), none⟩]) <|
  .cond (.t 17) (.seq (.region [⟨.build [(.bool false), (.bool false), .nils] [], (some 18), none⟩, ⟨.mv (.t 6), (some 19), none⟩, ⟨.mv (.t 7), (some 20), none⟩, ⟨.store 3 (.t 2) (.t 18), none, none⟩, ⟨.mv (.t 19), (some 3), none⟩, ⟨.mv (.t 20), (some 4), none⟩]) <|
  .ret) (.skip)) <|
  .seq (.region [⟨.mv (.t 5), (some 21), none⟩, ⟨.build [.nils, (.int .i64 0), (.bool false)] [(0, 1, (.t 21))], (some 22), none⟩, ⟨.box (.t 22), (some 23), none⟩, ⟨.mv (.t 23), (some 8), none⟩]) <|
  .seq (.seq (.region [⟨.mv (.t 5), (some 24), none⟩, ⟨.len false (.t 24), (some 25), none⟩, ⟨.bin .eql (.t 25) (.c (.int .i64 1)), (some 26), none⟩, ⟨.mv (.t 26), (some 27), none⟩, ⟨.mv (.t 8), (some 28), some (27, true)⟩, ⟨.call false (.c (.fn (.func n_ref17_reader_is) [] [])) [(.t 28), (.c (.str [45]))], (some 29), some (27, true)⟩, ⟨.pick (.t 27) (.t 29) (.c (.bool false)), (some 30), none⟩]) <|
  .cond (.t 30) (.seq (.region [⟨.build [(.bool false), (.bool false), .nils] [(0, 1, (.c (.bool true)))], (some 31), none⟩, ⟨.store 3 (.t 2) (.t 31), none, none⟩, ⟨.mv (.c (.int .i64 0)), (some 3), none⟩, ⟨.mv (.c (.int .i64 0)), (some 4), none⟩]) <|
  .ret) (.skip)) <|
  .seq (.region [⟨.build [(.bool false), (.bool false), .nils] [], (some 32), none⟩, ⟨.alloc none [(.bool false), (.bool false), .nils], (some 9), none⟩, ⟨.store 3 (.t 9) (.t 32), none, none⟩]) <|
  .seq (.seq (.region [⟨.mv (.t 5), (some 33), none⟩, ⟨.len false (.t 33), (some 34), none⟩, ⟨.bin .gtr (.t 34) (.c (.int .i64 1)), (some 35), none⟩, ⟨.mv (.t 35), (some 36), none⟩, ⟨.mv (.t 5), (some 37), some (36, true)⟩, ⟨.iaddr ⟨true, 4⟩ none (.t 37) (.c (.int .i64 0)), (some 38), some (36, true)⟩, ⟨.faddr 0 (.t 38), (some 39), some (36, true)⟩, ⟨.load false 1 (.t 39), (some 40), some (36, true)⟩, ⟨.bin .eql (.t 40) (.c (.int .i64 1)), (some 41), some (36, true)⟩, ⟨.pick (.t 36) (.t 41) (.c (.bool false)), (some 42), none⟩, ⟨.mv (.t 42), (some 43), none⟩, ⟨.mv (.t 5), (some 44), some (43, true)⟩, ⟨.iaddr ⟨true, 4⟩ none (.t 44) (.c (.int .i64 0)), (some 45), some (43, true)⟩, ⟨.faddr 1 (.t 45), (some 46), some (43, true)⟩, ⟨.load false 1 (.t 46), (some 47), some (43, true)⟩, ⟨.bin .eql (.t 47) (.c (.str [110, 111, 116])), (some 48), some (43, true)⟩, ⟨.pick (.t 43) (.t 48) (.c (.bool false)), (some 49), none⟩, ⟨.mv (.t 49), (some 50), none⟩, ⟨.mv (.t 5), (some 51), some (50, true)⟩, ⟨.iaddr ⟨true, 4⟩ none (.t 51) (.c (.int .i64 1)), (some 52), some (50, true)⟩, ⟨.faddr 0 (.t 52), (some 53), some (50, true)⟩, ⟨.load false 1 (.t 53), (some 54), some (50, true)⟩, ⟨.bin .eql (.t 54) (.c (.int .i64 4)), (some 55), some (50, true)⟩, ⟨.pick (.t 50) (.t 55) (.c (.bool false)), (some 56), none⟩, ⟨.mv (.t 56), (some 57), none⟩, ⟨.mv (.t 5), (some 58), some (57, true)⟩, ⟨.iaddr ⟨true, 4⟩ none (.t 58) (.c (.int .i64 1)), (some 59), some (57, true)⟩, ⟨.faddr 1 (.t 59), (some 60), some (57, true)⟩, ⟨.load false 1 (.t 60), (some 61), some (57, true)⟩, ⟨.bin .eql (.t 61) (.c (.str [40])), (some 62), some (57, true)⟩, ⟨.pick (.t 57) (.t 62) (.c (.bool false)), (some 63), none⟩]) <|
  .cond (.t 63) (.seq (.region [⟨.faddr 1 (.t 9), (some 64), none⟩, ⟨.store 1 (.t 64) (.c (.bool true)), none, none⟩]) <|
  .region [⟨.mv (.t 8), (some 65), none⟩, ⟨.nilck (.t 65), (some 66), none⟩, ⟨.faddr 1 (.t 66), (some 67), none⟩, ⟨.store 1 (.t 67) (.c (.int .i64 2)), none, none⟩]) (.skip)) <|
  c1_ref17_Parse) := rfl
theorem cut_to {P : Program} {c : ACode} {Q : AQ} {S : Store} {e : Env} (cs : List (Nat × AV)) (hr : ∀ r, wpA P c Q (puts cs r) S) (hat : At cs e) : wpA P c Q e S := by
  have := hr e
  rwa [puts_at cs hat] at this
def nextF (T : List Tok) (f : Nat) (acc : List Test) (p : Nat) (b : Bool) : CS := if onT T p b 4 [44] then testsF T f acc (p + 1) b else ⟨acc, p, b⟩
theorem testsF_next (T : List Tok) (f : Nat) (acc : List Test) (p : Nat) (b : Bool) : testsF T (f + 1) acc p b = nextF T f (acc ++ [(testS T p b).t]) (testS T p b).p (testS T p b).bad := rfl
def stP (T : List Tok) (n : Bool) (p : Nat) (b : Bool) (t : Test) (acc : List Test) : Store :=
  [.cells [.bool false, .bool false, .nils], .cells [.lst false ET (T.map eTok), I p, .bool b], .cells [.bool false, .bool n, .own ES 3 (acc.length + 1) 0 (acc.length + 1)], .vec ES (eTest t :: acc.map eTest)]
theorem stP_eq (T : List Tok) (n : Bool) (p : Nat) (b : Bool) (t : Test) (acc : List Test) : stP T n p b t acc =
  [.cells [.bool false, .bool false, .nils], .cells [.lst false ET (T.map eTok), I p, .bool b], .cells [.bool false, .bool n, .own ES 3 (acc.length + 1) 0 (acc.length + 1)], .vec ES (eTest t :: acc.map eTest)] := rfl
structure Lp2 where
  t : Test
  acc : List Test
  p : Nat
  b : Bool
  f : Nat
set_option maxHeartbeats 4000000 in
theorem ref17_Parse (s : Str) (hs : s.length ≤ 2 ^ 30) : CallF Tryz.prog n_ref17_Parse [.str s] (eC3 (parseC s)) := by
  have cl := ref13_Lex s hs
  obtain ⟨f1, f2⟩ := lexS_facts s
  obtain ⟨od, hod⟩ : ∃ o, onT (lexS s).1 0 false 4 [45] = o := ⟨_, rfl⟩
  have cm := ref17_is_is (lexS s).1 0 false [45] od hod
  have hok := cellR_ok (lexS_ok s) (by omega)
  have cc := ref17_Right _ hok
  have hp1 := cellR_p (lexS s).1
  have hne := cellR_ne (lexS s).1
  have hR : endC (lexS s).1 (notT (lexS s).1) (testsF (lexS s).1 ((lexS s).1.length + 1) [] (p0C (lexS s).1) false) = cellR (lexS s).1 := rfl
  have hp0 := p0C_le (lexS s).1
  have e0 : p0C (lexS s).1 = if notT (lexS s).1 then 2 else 0 := rfl
  have hP : parseC s = if (lexS s).2.2 ≠ 0 then (c0, (lexS s).2.1, (lexS s).2.2)
    else if (lexS s).1.length = 1 ∧ onT (lexS s).1 0 false 4 [45] = true then (cAny, 0, 0)
    else if (cellR (lexS s).1).p < (lexS s).1.length then (c0, ((lexS s).1.getD (cellR (lexS s).1).p default).pos, 11)
    else if (cellR (lexS s).1).bad = true then (c0, (s.length : Int), 11)
    else if 12 < (cellR (lexS s).1).ts.length then (c0, 0, 24)
    else if rightC ⟨false, notT (lexS s).1, (cellR (lexS s).1).ts⟩ = false then (c0, 0, 12)
    else (⟨false, notT (lexS s).1, (cellR (lexS s).1).ts⟩, 0, 0) := rfl
  rw [hP, hod]
  clear hP hok
  have hnt : notT (lexS s).1 = (decide (1 < (lexS s).1.length) && (isT (lexS s).1 0 1 notS && isT (lexS s).1 1 4 [40])) := rfl
  generalize rightC ⟨false, notT (lexS s).1, (cellR (lexS s).1).ts⟩ = rb at *
  generalize cellR (lexS s).1 = R at *
  generalize notT (lexS s).1 = n at *
  generalize lexS s = L at *
  obtain ⟨T, la, le⟩ := L
  dsimp only at *
  have hTs : ∀ q, (T.getD q default).s.length ≤ 2 ^ 62 := fun q => by have := f2 q; omega
  clear f2
  simp only [eC3] at ⊢
  simp only [eLex, eToks] at cl
  simp only [eRd, Int.cast_ofNat_Int] at cm
  simp only [eCell, eTests] at cc
  have e1 : ∀ σ : Store, View σ (.agg [.bool false, .bool false, .nils]) (eCell c0) := fun σ => view_c0
  have e2 : ∀ σ : Store, View σ (.agg [.bool true, .bool false, .nils]) (eCell cAny) := fun σ => view_cAny
  by_cases h1 : le ≠ 0
  · rw [if_pos h1]
    generalize eCell c0 = E at *
    refine CallF.of_nil (of_ref17_Parse (by simp) ?_) (by simp)
    unfold b_ref17_Parse WpR
    intro Q hQr hQn hQp
    repeat' first | refine go_ ?_ | refine cf_ cl ?_ | refine br_ (fun hw => ?_) (fun hw => ?_) <;> try omega | fail
    all_goals exact leafN (view3 (e1 _))
  rw [if_neg h1]
  by_cases h2 : T.length = 1 ∧ od = true
  · rw [if_pos h2]
    generalize eCell cAny = E2 at *
    obtain ⟨h2, rfl⟩ := h2
    refine CallF.of_nil (of_ref17_Parse (by simp) ?_) (by simp)
    unfold b_ref17_Parse WpR
    intro Q hQr hQn hQp
    repeat' first | simp (disch := omega) only [go_sem, hQr, hQn, hQp, wrapK_i64, wrapK_u8, wrapK_u64, Nat.reduceAdd, Nat.reduceBEq, ↓reduceIte, h2] | refine go_ ?_ | refine cf_ cl ?_ | refine cm_ cm ?_ | refine br_ (fun hw => ?_) (fun hw => ?_) <;> try omega | fail
    all_goals first | exact leafN (view3 (e2 _)) | exact ab_
  rw [if_neg h2]
  refine CallF.of_nil (of_ref17_Parse (by simp) ?_) (by simp)
  unfold WpR
  intro Q hQr hQn hQp
  rw [cut_ref17_Parse]
  have rest2 : ∀ (r : Env), wpA Tryz.prog c2_ref17_Parse Q (puts [(0, .str s), (2, .ref 0 0), (5, .lst false ET (T.map eTok)), (8, .ref 1 0), (9, .ref 2 0)] r) [.cells [.bool false, .bool false, .nils], .cells [.lst false ET (T.map eTok), I R.p, .bool R.bad], .cells [.bool false, .bool n, .own ES 3 R.ts.length 0 R.ts.length], .vec ES (R.ts.map eTest)] := by
    intro r
    clear hR cm cl hod h2 hnt e0 hp0
    obtain ⟨rts, rp, rbad⟩ := R
    dsimp only at *
    have e3 : ∀ σ : Store, σ[3]? = some (.vec ES (rts.map eTest)) → View σ (.agg [.bool false, .bool n, .own ES 3 rts.length 0 rts.length]) (eCell ⟨false, n, rts⟩) := fun σ h => view_cell rfl h
    by_cases h4 : rp < T.length
    · simp only [if_pos h4] at hQr hQn hQp
      generalize eCell c0 = E at *
      unfold c2_ref17_Parse
      repeat' first | refine go_ ?_ | refine br_ (fun hw => ?_) (fun hw => ?_) <;> try omega | fail
      all_goals first | exact leafN (view3 (e1 _)) | exact ab_
    simp only [if_neg h4] at hQr hQn hQp
    cases rbad with
    | true =>
      simp only [if_true] at hQr hQn hQp
      generalize eCell c0 = E at *
      unfold c2_ref17_Parse
      repeat' first | refine go_ ?_ | refine br_ (fun hw => ?_) (fun hw => ?_) <;> try omega | fail
      all_goals first | exact leafN (view3 (e1 _)) | exact ab_
    | false =>
      simp only [Bool.false_eq_true, if_false] at hQr hQn hQp
      by_cases h6 : 12 < rts.length
      · simp only [if_pos h6] at hQr hQn hQp
        generalize eCell c0 = E at *
        unfold c2_ref17_Parse
        repeat' first | refine go_ ?_ | refine br_ (fun hw => ?_) (fun hw => ?_) <;> try omega | fail
        all_goals first | exact leafN (view3 (e1 _)) | exact ab_
      simp only [if_neg h6] at hQr hQn hQp
      cases rb with
      | false =>
        simp only [if_true] at hQr hQn hQp
        generalize eCell c0 = E at *
        unfold c2_ref17_Parse
        repeat' first | refine go_ ?_ | refine cv_ cc ?_ | refine br_ (fun hw => ?_) (fun hw => ?_) <;> try omega | fail
        all_goals first | exact leafN (view3 (e1 _)) | exact ab_
      | true =>
        simp only [Bool.true_eq_false, if_false] at hQr hQn hQp
        generalize eCell ⟨false, n, rts⟩ = E3 at *
        unfold c2_ref17_Parse
        repeat' first | refine go_ ?_ | refine cv_ cc ?_ | refine br_ (fun hw => ?_) (fun hw => ?_) <;> try omega | fail
        all_goals first | exact leafN (view3 (e3 _ rfl)) | exact ab_
  clear cc e1 e2
  have rest1 : ∀ (r : Env), wpA Tryz.prog c1_ref17_Parse Q (puts [(0, .str s), (2, .ref 0 0), (5, .lst false ET (T.map eTok)), (8, .ref 1 0), (9, .ref 2 0)] r) [.cells [.bool false, .bool false, .nils], .cells [.lst false ET (T.map eTok), I (p0C T), .bool false], .cells [.bool false, .bool n, .nils]] := by
    intro r
    clear cl cm hod h2 hnt e0
    rw [testsF_next, List.nil_append] at hR
    have ct := ref17_test_ T (p0C T) false hp0 (by omega) hTs
    have gt := goes_test (T := T) (b := false) hp0
    generalize testS T (p0C T) false = x at *
    obtain ⟨xt, xp, xb⟩ := x
    dsimp only at ct gt hR
    generalize p0C T = p0 at *
    have et : eTest xt = .agg [I xt.kind, I xt.a.op, I xt.a.v.kind, I xt.a.v.n, .str xt.a.v.s, .str xt.a.s, .lst false EX (xt.a.l.map eExpr), I xt.b.op, I xt.b.v.kind, I xt.b.v.n, .str xt.b.v.s, .str xt.b.s, .lst false EX (xt.b.l.map eExpr), .bool xt.lo, .bool xt.hi] := rfl
    rw [et] at ct
    simp only [eRd] at ct
    unfold c1_ref17_Parse
    repeat' first | refine go_ ?_ | refine cm_ ct ?_ | refine br_ (fun hw => ?_) (fun hw => ?_) <;> try omega | fail
    with_reducible refine loop_i [75, 76, 77, 78, 79, 80, 81, 82, 83, 84, 85, 86, 87, 88, 89, 90] (fun x : Lp2 => ([] : List (Nat × AV))) (fun x => stP T n x.p x.b x.t x.acc) (fun x => x.p ≤ T.length ∧ x.acc.length + x.f = T.length ∧ T.length ≤ x.f + x.p ∧ endC T n (nextF T x.f (x.t :: x.acc) x.p x.b) = R) (fun x => x.f) ⟨xt, [], xp, xb, T.length⟩ ⟨gt.2, by simp, by simp, hR⟩ rfl ?_ ?_
    · exact at_
    clear ct hR
    rintro ⟨t0, acc, p, b, f⟩ r ⟨h1, h2, h3, h4⟩
    dsimp only at h1 h2 h3 h4
    obtain ⟨o, ho⟩ : ∃ o, onT T p b 4 [44] = o := ⟨_, rfl⟩
    have con := ref17_is_is T p b [44] o ho
    unfold nextF at h4
    rw [ho] at h4
    have et0 : eTest t0 = .agg [I t0.kind, I t0.a.op, I t0.a.v.kind, I t0.a.v.n, .str t0.a.v.s, .str t0.a.s, .lst false EX (t0.a.l.map eExpr), I t0.b.op, I t0.b.v.kind, I t0.b.v.n, .str t0.b.v.s, .str t0.b.s, .lst false EX (t0.b.l.map eExpr), .bool t0.lo, .bool t0.hi] := rfl
    simp only [eRd] at con
    rw [stP_eq T n p b]
    cases o with
    | true =>
      have hlt := onT_lt ho
      obtain ⟨f, rfl⟩ : ∃ g, f = g + 1 := ⟨f - 1, by omega⟩
      rw [if_pos rfl, testsF_next] at h4
      have ct := ref17_test_ T (p + 1) b hlt.1 (by omega) hTs
      have gt := goes_test (T := T) (p := p + 1) (b := b) hlt.1
      generalize testS T (p + 1) b = x at *
      obtain ⟨xt, xp, xb⟩ := x
      dsimp only at ct gt h4
      have et : eTest xt = .agg [I xt.kind, I xt.a.op, I xt.a.v.kind, I xt.a.v.n, .str xt.a.v.s, .str xt.a.s, .lst false EX (xt.a.l.map eExpr), I xt.b.op, I xt.b.v.kind, I xt.b.v.n, .str xt.b.v.s, .str xt.b.s, .lst false EX (xt.b.l.map eExpr), .bool xt.lo, .bool xt.hi] := rfl
      rw [et] at ct
      simp only [eRd, Int.natCast_add, Int.cast_ofNat_Int] at ct
      repeat' first | simp (disch := omega) only [go_sem, hQr, hQn, hQp, wrapK_i64, wrapK_u8, wrapK_u64, Nat.reduceAdd, Nat.reduceBEq, ↓reduceIte, Int.natCast_add, Int.cast_ofNat_Int] | refine go_ ?_ | refine cm_ con ?_ | refine cm_ ct ?_ | refine br_ (fun hw => ?_) (fun hw => ?_) <;> try omega | fail
      refine ⟨⟨t0, acc ++ [xt], xp, xb, f⟩, ?_, ?_, ?_, ou_, at_⟩ <;> (try dsimp only)
      · exact ⟨gt.2, by simp only [List.length_append, List.length_cons, List.length_nil]; omega, by omega, h4⟩
      · omega
      · simp [stP, eTest, eExprs]
    | false =>
      rw [if_neg (by simp)] at h4
      have cmu := ref17_must T p b [41] (by omega)
      have hpick : (n = false ∨ b = true) ∨ (n = true ∧ b = false) := by
        cases n with
        | false => exact .inl (.inl rfl)
        | true => cases b with
          | false => exact .inr ⟨rfl, rfl⟩
          | true => exact .inl (.inr rfl)
      rcases hpick with hpick | ⟨rfl, rfl⟩
      · have h5 : (⟨t0 :: acc, p, b⟩ : CS) = R := by
          rw [← h4]
          unfold endC
          cases n with
          | false => rfl
          | true =>
            rcases hpick with h | h
            · cases h
            · subst h
              have hon : onT T p true 4 [41] = false := rfl
              rw [if_pos rfl]
              dsimp only
              unfold onP
              rw [hon]; rfl
        subst h5
        rw [show (t0 :: acc).map eTest = eTest t0 :: acc.map eTest from rfl, et0] at rest2
        simp only [List.length_cons] at rest2
        have hnb : (n && !b) = false := by rcases hpick with rfl | rfl <;> simp
        cases n with
        | false =>
          repeat' first | refine go_ ?_ | refine cm_ con ?_ | refine br_ (fun hw => ?_) (fun hw => ?_) <;> try omega | fail
          all_goals first | exact cut_to _ rest2 at_ | exact ab_
        | true =>
          obtain rfl : b = true := by simpa using hpick
          repeat' first | refine go_ ?_ | refine cm_ con ?_ | refine br_ (fun hw => ?_) (fun hw => ?_) <;> try omega | fail
          all_goals first | exact cut_to _ rest2 at_ | exact ab_
      · simp only [endC, if_true] at h4
        subst h4
        dsimp only at rest2
        rw [show (t0 :: acc).map eTest = eTest t0 :: acc.map eTest from rfl, et0] at rest2
        simp only [List.length_cons] at rest2
        generalize onP T p false 4 [41] = p9 at *
        generalize (false || !(onT T p false 4 [41])) = b9 at *
        simp only [eRd] at cmu
        repeat' first | refine go_ ?_ | refine cm_ con ?_ | refine cm_ cmu ?_ | refine br_ (fun hw => ?_) (fun hw => ?_) <;> try omega | fail
        all_goals first | exact cut_to _ rest2 at_ | exact ab_
  clear rest2 hR hne hp1
  by_cases hn : n = true
  · subst hn
    rw [if_pos rfl] at e0
    rw [e0] at rest1
    symm at hnt
    simp only [Bool.and_eq_true, decide_eq_true_eq, isT, notS] at hnt
    obtain ⟨q1, ⟨q2, q3, q4⟩, q5, q6, q7⟩ := hnt
    have hl1 : ¬ T.length = 1 := by omega
    repeat' first | simp (disch := omega) only [go_sem, hQr, hQn, hQp, wrapK_i64, wrapK_u8, wrapK_u64, Nat.reduceAdd, Nat.reduceBEq, ↓reduceIte, q3, q4, q6, q7] | refine go_ ?_ | refine cf_ cl ?_ | refine br_ (fun hw => ?_) (fun hw => ?_) <;> try omega | fail
    all_goals first | exact cut_to _ rest1 at_ | exact ab_
  · obtain rfl : n = false := by simpa using hn
    rw [if_neg (by simp)] at e0
    rw [e0] at rest1
    have hnt' : 1 < T.length → (T.getD 0 default).kind = 1 → (T.getD 0 default).s = [110, 111, 116] → (T.getD 1 default).kind = 4 → (T.getD 1 default).s = [40] → False := fun q1 q2 q3 q4 q5 => by
      have q0 : 0 < T.length := by omega
      rw [decide_eq_true q1] at hnt
      simp only [isT, notS, q0, q1, q2, q3, q4, q5] at hnt
      simp at hnt
    by_cases hl1 : T.length = 1
    · obtain rfl : od = false := by
        cases od with
        | false => rfl
        | true => exact absurd ⟨hl1, rfl⟩ h2
      repeat' first | refine go_ ?_ | refine cf_ cl ?_ | refine cm_ cm ?_ | refine br_ (fun hw => ?_) (fun hw => ?_) <;> try omega | fail
      all_goals first | exact cut_to _ rest1 at_ | exact ab_
    · repeat' first | refine go_ ?_ | refine cf_ cl ?_ | refine br_ (fun hw => ?_) (fun hw => ?_) <;> try omega | fail
      all_goals first | exact cut_to _ rest1 at_ | (exact (hnt' (by omega) (by assumption) (by assumption) (by assumption) (by assumption)).elim) | exact ab_
def fitsT (t : Test) (a b : Int) : Bool := fitsK a b && (decide (t.kind = 1) || (decide (a ≠ 3) && decide (b ≠ 3)))
theorem cell_fits (t : Test) (a b : Int) : CallF Tryz.prog n_cell_fits [eTest t, I a, I b] (.bool (fitsT t a b)) := by
  have hf := typing_Fits a b
  have hS : fitsT t a b = (fitsK a b && (decide (t.kind = 1) || (decide (a ≠ 3) && decide (b ≠ 3)))) := rfl
  rw [hS]
  generalize fitsK a b = f at *
  simp only [eTest, eExprs]
  refine CallF.of_nil (of_cell_fits (by simp) ?_) (by simp)
  unfold b_cell_fits WpR
  intro Q hQr hQn hQp
  repeat' first | refine go_ ?_ | refine cf_ hf ?_ | refine br_ (fun hw => ?_) (fun hw => ?_) <;> try omega | fail
  all_goals (refine leafE ?_ rfl; refine congrArg AV.bool ?_; rw [Bool.eq_iff_iff]; simp_all)
theorem ref17_fits (t : Test) (a b : Int) : CallF Tryz.prog n_ref17_fits [eTest t, I a, I b] (.bool (fitsT t a b)) := by
  have hf := ref15_Fits a b
  have hS : fitsT t a b = (fitsK a b && (decide (t.kind = 1) || (decide (a ≠ 3) && decide (b ≠ 3)))) := rfl
  rw [hS]
  generalize fitsK a b = f at *
  simp only [eTest, eExprs]
  refine CallF.of_nil (of_ref17_fits (by simp) ?_) (by simp)
  unfold b_ref17_fits WpR
  intro Q hQr hQn hQp
  repeat' first | refine go_ ?_ | refine cf_ hf ?_ | refine br_ (fun hw => ?_) (fun hw => ?_) <;> try omega | fail
  all_goals (refine leafE ?_ rfl; refine congrArg AV.bool ?_; rw [Bool.eq_iff_iff]; simp_all)
def partsT (t : Test) : List Expr := if t.kind = 6 then [t.a, t.b] else [t.a]
theorem cell_parts (t : Test) : CallF Tryz.prog n_cell_parts [eTest t] (eExprs (partsT t)) := by
  have h1 : ∀ σ : Store, View σ (.lst true EX [.agg [I t.a.op, I t.a.v.kind, I t.a.v.n, .str t.a.v.s, .str t.a.s, .lst false EX (t.a.l.map eExpr)]]) (eExprs [t.a]) := fun σ => by
    rw [eExprs, List.map_cons, List.map_nil, eExpr_eq]; exact View.weak _ _ _ (by simp)
  have h2 : ∀ σ : Store, View σ (.lst true EX [.agg [I t.a.op, I t.a.v.kind, I t.a.v.n, .str t.a.v.s, .str t.a.s, .lst false EX (t.a.l.map eExpr)], .agg [I t.b.op, I t.b.v.kind, I t.b.v.n, .str t.b.v.s, .str t.b.s, .lst false EX (t.b.l.map eExpr)]]) (eExprs [t.a, t.b]) := fun σ => by
    rw [eExprs, List.map_cons, List.map_cons, List.map_nil, eExpr_eq, eExpr_eq]; exact View.weak _ _ _ (by simp)
  unfold partsT
  by_cases h6 : t.kind = 6
  · rw [if_pos h6]
    generalize eExprs [t.a, t.b] = E at *
    simp only [eTest, eExprs]
    refine CallF.of_nil (of_cell_parts (by simp) ?_) (by simp)
    unfold b_cell_parts WpR
    intro Q hQr hQn hQp
    repeat' first | simp (disch := omega) only [go_sem, hQr, hQn, hQp, wrapK_i64, wrapK_u8, wrapK_u64, Nat.reduceAdd, Nat.reduceBEq, ↓reduceIte, h6] | refine go_ ?_ | refine br_ (fun hw => ?_) (fun hw => ?_) <;> try omega | fail
    all_goals exact leaf1 (h2 _)
  · rw [if_neg h6]
    generalize eExprs [t.a] = E at *
    simp only [eTest, eExprs]
    refine CallF.of_nil (of_cell_parts (by simp) ?_) (by simp)
    unfold b_cell_parts WpR
    intro Q hQr hQn hQp
    repeat' first | refine go_ ?_ | refine br_ (fun hw => ?_) (fun hw => ?_) <;> try omega | fail
    all_goals exact leaf1 (h1 _)
def kindR (cs : List Col) (x : Expr) : Int × Int := if rightX x then kindX cs x else (0, 2)
theorem typing_KindR (cs : List Col) (hcs : cs.length ≤ 2 ^ 60) (x : Expr) (hx : okX x) (hz : szS x ≤ 2 ^ 60) : CallF Tryz.prog n_typing_Kind [eExpr x, eCols cs] (.tup [I (kindR cs x).1, I (kindR cs x).2]) := by
  have := typing_Kind cs hcs x hx hz
  unfold kindR
  cases hr : rightX x <;> simpa [hr] using this
theorem ref15_KindR (cs : List Col) (hcs : cs.length ≤ 2 ^ 60) (x : Expr) (hx : okX x) (hz : szS x ≤ 2 ^ 60) : CallF Tryz.prog n_ref15_Kind [eExpr x, eCols cs] (.tup [I (kindR cs x).1, I (kindR cs x).2]) := by
  have := ref15_Kind cs hcs x hx hz
  unfold kindR
  cases hr : rightX x <;> simpa [hr] using this
def typT (cs : List Col) (kind : Int) (t : Test) : Int :=
  if (kindR cs t.a).2 ≠ 0 then (kindR cs t.a).2
  else if t.kind = 6 then (if (kindR cs t.b).2 ≠ 0 then (kindR cs t.b).2 else if fitsT t kind (kindR cs t.a).1 && fitsT t kind (kindR cs t.b).1 then 0 else 14)
  else if fitsT t kind (kindR cs t.a).1 then 0 else 14
def typC (cs : List Col) (kind : Int) (c : Cell) : Int := if rightC c then (match c.tests.find? (fun t => typT cs kind t != 0) with
  | some t => typT cs kind t
  | none => 0) else 2
theorem typC_at {cs : List Col} {kind : Int} {c : Cell} {i : Nat} {e : Int} (hr : rightC c = true) (hi : i < c.tests.length) (h : ∀ k, k < i → (typT cs kind (c.tests.getD k default) != 0) = false) (he : typT cs kind (c.tests.getD i default) = e) (hne : e ≠ 0) : typC cs kind c = e := by
  unfold typC
  rw [if_pos hr, find_at (p := fun t => typT cs kind t != 0) hi h (by rw [he]; simpa using hne)]
  exact he
theorem typC_non {cs : List Col} {kind : Int} {c : Cell} (hr : rightC c = true) (h : ∀ k, k < c.tests.length → (typT cs kind (c.tests.getD k default) != 0) = false) : typC cs kind c = 0 := by
  unfold typC
  rw [if_pos hr, find_non (p := fun t => typT cs kind t != 0) h]
set_option maxHeartbeats 2000000 in
theorem ref17_Typed (cs : List Col) (hcs : cs.length ≤ 2 ^ 60) (kind : Int) (c : Cell) (h : okC c) : CallF Tryz.prog n_ref17_Typed [eCell c, I kind, eCols cs] (I (typC cs kind c)) := by
  have hR := ref17_Right c h
  obtain ⟨hl, ht⟩ := h
  cases hr : rightC c with
  | false =>
    rw [show typC cs kind c = 2 from by unfold typC; rw [if_neg (by simp [hr])]]
    rw [hr] at hR
    simp only [eCell, eTests, eCols] at hR ⊢
    refine CallF.of_nil (of_ref17_Typed (by simp) ?_) (by simp)
    unfold b_ref17_Typed WpR
    intro Q hQr hQn hQp
    repeat' first | refine go_ ?_ | refine cf_ hR ?_ | refine br_ (fun hw => ?_) (fun hw => ?_) <;> try omega | fail
    exact leafE rfl rfl
  | true =>
    rw [hr] at hR
    simp only [eCell, eTests, eCols] at hR ⊢
    refine CallF.of_nil (of_ref17_Typed (by simp) ?_) (by simp)
    unfold b_ref17_Typed WpR
    intro Q hQr hQn hQp
    repeat' first | refine go_ ?_ | refine cf_ hR ?_ | refine br_ (fun hw => ?_) (fun hw => ?_) <;> try omega | fail
    with_reducible refine loop_i [6, 7, 8, 9, 10, 11, 15, 16, 17, 18, 19, 20, 21, 22, 23, 24, 25, 26, 27, 28, 29, 30, 31, 32, 33, 34, 35, 36, 37, 38, 39, 40, 41, 42, 43, 44, 45, 46, 47, 48, 49, 50, 51, 52, 53, 54, 55, 56, 57, 58, 59, 60, 61, 62, 63] (fun q : Nat × List AObj => [(7, I q.1)]) (fun q => .cells [.bool c.any, .bool c.neg, .lst false ES (c.tests.map eTest)] :: q.2) (fun q => q.1 ≤ c.tests.length ∧ ∀ k, k < q.1 → (typT cs kind (c.tests.getD k default) != 0) = false) (fun q => c.tests.length - q.1) (0, []) ?_ ?_ ?_ ?_
    · simp
    · rfl
    · exact at_
    rintro ⟨i, τ⟩ r ⟨h1, h2⟩
    dsimp only at h1 h2
    by_cases hi : i < c.tests.length
    · have hti := ht _ (getD_mem hi)
      have hat := fun e he hne => typC_at (cs := cs) (kind := kind) (e := e) hr hi h2 he hne
      have hbs := fun he => before_succ h2 (i := i) he
      obtain ⟨t, hteq⟩ : ∃ t, c.tests.getD i default = t := ⟨_, rfl⟩
      rw [hteq] at hti hat hbs
      have ka := ref15_KindR cs hcs t.a hti.1.1 hti.1.2
      have kb := ref15_KindR cs hcs t.b hti.2.1 hti.2.2
      have fa := ref17_fits t kind (kindR cs t.a).1
      have fb := ref17_fits t kind (kindR cs t.b).1
      simp only [typT] at hat hbs
      generalize fitsT t kind (kindR cs t.a).1 = va at *
      generalize fitsT t kind (kindR cs t.b).1 = vb at *
      generalize kindR cs t.a = ra at *
      generalize kindR cs t.b = rb at *
      rw [eExpr_eq] at ka kb
      simp only [eTest, eExprs, eCols] at ka kb fa fb
      repeat' first | simp (disch := omega) only [go_sem, hQr, hQn, hQp, wrapK_i64, wrapK_u8, wrapK_u64, Nat.reduceAdd, Nat.reduceBEq, ↓reduceIte, hteq] | refine go_ ?_ | refine cf_ ka ?_ | refine cf_ kb ?_ | refine cf_ fa ?_ | refine cf_ fb ?_ | refine br_ (fun hw => ?_) (fun hw => ?_) <;> try omega | fail
      all_goals first
        | (refine leafE ?_ rfl; refine congrArg I ?_; symm; refine hat _ ?_ ?_ <;> (clear hat hbs; simp_all; done))
        | (refine ⟨(i + 1, τ ++ [.cells [I t.kind, I t.a.op, I t.a.v.kind, I t.a.v.n, .str t.a.v.s, .str t.a.s, .lst false EX (t.a.l.map eExpr), I t.b.op, I t.b.v.kind, I t.b.v.n, .str t.b.v.s, .str t.b.s, .lst false EX (t.b.l.map eExpr), .bool t.lo, .bool t.hi]]), ?_, ?_, ?_, ou_, at_⟩ <;> (try dsimp only)
           · exact ⟨by omega, hbs (by clear hat hbs; simp_all)⟩
           · omega
           all_goals (first | rfl | (simp [go_sem]; done)))
        | exact ab_
    · repeat' first | refine go_ ?_ | refine br_ (fun hw => ?_) (fun hw => ?_) <;> try omega | fail
      refine leafE ?_ rfl
      rw [typC_non hr (fun k hk => h2 k (by omega))]
@[go_sem] theorem lastA {α : Type} (τ : List α) (d : α) : (τ ++ [d])[τ.length]? = some d := by simp
@[go_sem] theorem setA {α : Type} (τ : List α) (d e : α) : (τ ++ [d]).set τ.length e = τ ++ [e] := by simp
@[go_sem] theorem set2b {α : Type} (τ : List α) (c d e : α) : (τ ++ [c] ++ [d]).set τ.length e = τ ++ [e] ++ [d] := by simp
set_option maxHeartbeats 4000000 in
theorem cell_Typed (cs : List Col) (hcs : cs.length ≤ 2 ^ 60) (kind : Int) (c : Cell) (h : okC c) : CallF Tryz.prog n_cell_Typed [eCell c, I kind, eCols cs] (I (typC cs kind c)) := by
  have hR := cell_Check c h
  obtain ⟨hl, ht⟩ := h
  cases hr : rightC c with
  | false =>
    rw [show typC cs kind c = 2 from by unfold typC; rw [if_neg (by simp [hr])]]
    rw [hr] at hR
    simp only [errB, Bool.false_eq_true, if_false] at hR
    simp only [eCell, eTests, eCols] at hR ⊢
    refine CallF.of_nil (of_cell_Typed (by simp) ?_) (by simp)
    unfold b_cell_Typed WpR
    intro Q hQr hQn hQp
    repeat' first | refine go_ ?_ | refine cf_ hR ?_ | refine br_ (fun hw => ?_) (fun hw => ?_) <;> try omega | fail
    exact leafE rfl rfl
  | true =>
    rw [hr] at hR
    simp only [errB, if_true] at hR
    simp only [eCell, eTests, eCols] at hR ⊢
    refine CallF.of_nil (of_cell_Typed (by simp) ?_) (by simp)
    unfold b_cell_Typed WpR
    intro Q hQr hQn hQp
    repeat' first | refine go_ ?_ | refine cf_ hR ?_ | refine br_ (fun hw => ?_) (fun hw => ?_) <;> try omega | fail
    with_reducible refine loop_i [6, 9, 10, 12, 13, 14, 23, 24, 25, 26, 27, 28, 29, 30, 31, 32, 33, 34, 35, 36, 37, 38, 39, 40, 41, 42, 43, 44, 45, 46, 47, 48, 49, 50, 51, 52, 53] (fun q : Nat × List AObj => [(23, I q.1)]) (fun q => .cells [.bool c.any, .bool c.neg, .lst false ES (c.tests.map eTest)] :: q.2) (fun q => q.1 ≤ c.tests.length ∧ ∀ k, k < q.1 → (typT cs kind (c.tests.getD k default) != 0) = false) (fun q => c.tests.length - q.1) (0, []) ?_ ?_ ?_ ?_
    · simp
    · rfl
    · exact at_
    rintro ⟨i, τ⟩ r ⟨h1, h2⟩
    dsimp only at h1 h2
    by_cases hi : i < c.tests.length
    · have hti := ht _ (getD_mem hi)
      have hat := fun e he hne => typC_at (cs := cs) (kind := kind) (e := e) hr hi h2 he hne
      have hbs := fun he => before_succ h2 (i := i) he
      obtain ⟨t, hteq⟩ : ∃ t, c.tests.getD i default = t := ⟨_, rfl⟩
      rw [hteq] at hti hat hbs
      have ka := typing_KindR cs hcs t.a hti.1.1 hti.1.2
      have kb := typing_KindR cs hcs t.b hti.2.1 hti.2.2
      have fa := cell_fits t kind (kindR cs t.a).1
      have fb := cell_fits t kind (kindR cs t.b).1
      have hp := cell_parts t
      simp only [typT] at hat hbs
      generalize fitsT t kind (kindR cs t.a).1 = va at *
      generalize fitsT t kind (kindR cs t.b).1 = vb at *
      generalize kindR cs t.a = ra at *
      generalize kindR cs t.b = rb at *
      rw [eExpr_eq] at ka kb
      simp only [eTest, eExprs, eCols] at ka kb fa fb
      by_cases h6 : t.kind = 6
      · rw [partsT, if_pos h6, eExprs, List.map_cons, List.map_cons, List.map_nil, eExpr_eq, eExpr_eq] at hp
        simp only [eTest, eExprs] at hp
        simp only [if_pos h6] at hat hbs
        repeat' first | simp (disch := omega) only [go_sem, hQr, hQn, hQp, wrapK_i64, wrapK_u8, wrapK_u64, Nat.reduceAdd, Nat.reduceBEq, ↓reduceIte, hteq] | refine go_ ?_ | refine cf_ hp ?_ | refine br_ (fun hw => ?_) (fun hw => ?_) <;> try omega | fail
        with_reducible refine loop_i [6, 10, 12, 13, 14, 30, 31, 32, 33, 34, 35, 36, 37, 38, 39, 40, 41, 42, 43, 44, 45, 46, 47, 48, 49, 50] (fun q : Int × Bool × List AObj => [(30, I q.1), (10, .bool q.2.1)]) (fun q => .cells [.bool c.any, .bool c.neg, .lst false ES (c.tests.map eTest)] :: q.2.2) (fun q => ((q.1 = 0 ∧ q.2.1 = true) ∨ (q.1 = 1 ∧ ra.2 = 0 ∧ q.2.1 = va) ∨ (q.1 = 2 ∧ ra.2 = 0 ∧ rb.2 = 0 ∧ q.2.1 = (va && vb))) ∧ q.2.2[τ.length]? = some (.cells [I t.kind, I t.a.op, I t.a.v.kind, I t.a.v.n, .str t.a.v.s, .str t.a.s, .lst false EX (t.a.l.map eExpr), I t.b.op, I t.b.v.kind, I t.b.v.n, .str t.b.v.s, .str t.b.s, .lst false EX (t.b.l.map eExpr), .bool t.lo, .bool t.hi])) (fun q => (2 - q.1).toNat) (0, true, τ ++ [.cells [I t.kind, I t.a.op, I t.a.v.kind, I t.a.v.n, .str t.a.v.s, .str t.a.s, .lst false EX (t.a.l.map eExpr), I t.b.op, I t.b.v.kind, I t.b.v.n, .str t.b.v.s, .str t.b.s, .lst false EX (t.b.l.map eExpr), .bool t.lo, .bool t.hi]]) ?_ ?_ ?_ ?_
        · exact ⟨.inl ⟨rfl, rfl⟩, by simp⟩
        · rfl
        · exact at_
        clear hp
        rintro ⟨j, ok, τ2⟩ r2 ⟨hj, hk⟩
        dsimp only at hj hk
        have hk2 := fun d : AObj => (List.getElem?_append_left (l₁ := τ2) (l₂ := [d]) (List.getElem?_eq_some_iff.1 hk).1).trans hk
        rcases hj with ⟨rfl, rfl⟩ | ⟨rfl, hra, rfl⟩ | ⟨rfl, hra, hrb, rfl⟩
        · repeat' first | simp (disch := omega) only [go_sem, hQr, hQn, hQp, wrapK_i64, wrapK_u8, wrapK_u64, Nat.reduceAdd, Nat.reduceBEq, ↓reduceIte, hk, hk2, Int.toNat_one] | refine go_ ?_ | refine cf_ ka ?_ | refine cf_ fa ?_ | refine br_ (fun hw => ?_) (fun hw => ?_) <;> try omega | fail
          all_goals first
            | (refine leafE ?_ rfl; refine congrArg I ?_; symm; refine hat _ ?_ ?_ <;> (clear hat hbs; simp_all; done))
            | (refine ⟨(1, va, τ2 ++ [.cells [I t.a.op, I t.a.v.kind, I t.a.v.n, .str t.a.v.s, .str t.a.s, .lst false EX (t.a.l.map eExpr)]]), ?_, ?_, ?_, ou_, at_⟩ <;> (try dsimp only)
               · exact ⟨.inr (.inl ⟨rfl, by assumption, rfl⟩), hk2 _⟩
               · omega
               all_goals (first | rfl | (simp [go_sem]; done)))
            | exact ab_
        · cases ok
          · repeat' first | simp (disch := omega) only [go_sem, hQr, hQn, hQp, wrapK_i64, wrapK_u8, wrapK_u64, Nat.reduceAdd, Nat.reduceBEq, ↓reduceIte, hk, hk2, Int.toNat_one] | refine go_ ?_ | refine cf_ kb ?_ | refine cf_ fb ?_ | refine br_ (fun hw => ?_) (fun hw => ?_) <;> try omega | fail
            all_goals first
              | (refine leafE ?_ rfl; refine congrArg I ?_; symm; refine hat _ ?_ ?_ <;> (clear hat hbs; simp_all; done))
              | (refine ⟨(2, false, τ2 ++ [.cells [I t.b.op, I t.b.v.kind, I t.b.v.n, .str t.b.v.s, .str t.b.s, .lst false EX (t.b.l.map eExpr)]]), ?_, ?_, ?_, ou_, at_⟩ <;> (try dsimp only)
                 · exact ⟨.inr (.inr ⟨rfl, by assumption, by assumption, rfl⟩), hk2 _⟩
                 · omega
                 all_goals (first | rfl | (simp [go_sem]; done)))
              | exact ab_
          · repeat' first | simp (disch := omega) only [go_sem, hQr, hQn, hQp, wrapK_i64, wrapK_u8, wrapK_u64, Nat.reduceAdd, Nat.reduceBEq, ↓reduceIte, hk, hk2, Int.toNat_one] | refine go_ ?_ | refine cf_ kb ?_ | refine cf_ fb ?_ | refine br_ (fun hw => ?_) (fun hw => ?_) <;> try omega | fail
            all_goals first
              | (refine leafE ?_ rfl; refine congrArg I ?_; symm; refine hat _ ?_ ?_ <;> (clear hat hbs; simp_all; done))
              | (refine ⟨(2, vb, τ2 ++ [.cells [I t.b.op, I t.b.v.kind, I t.b.v.n, .str t.b.v.s, .str t.b.s, .lst false EX (t.b.l.map eExpr)]]), ?_, ?_, ?_, ou_, at_⟩ <;> (try dsimp only)
                 · exact ⟨.inr (.inr ⟨rfl, by assumption, by assumption, rfl⟩), hk2 _⟩
                 · omega
                 all_goals (first | rfl | (simp [go_sem]; done)))
              | exact ab_
        · repeat' first | simp (disch := omega) only [go_sem, hQr, hQn, hQp, wrapK_i64, wrapK_u8, wrapK_u64, Nat.reduceAdd, Nat.reduceBEq, ↓reduceIte, hk, hk2] | refine go_ ?_ | refine br_ (fun hw => ?_) (fun hw => ?_) <;> try omega | fail
          all_goals first
            | (refine leafE ?_ rfl; refine congrArg I ?_; symm; refine hat _ ?_ ?_ <;> (clear hat hbs; simp_all; done))
            | (refine ⟨(i + 1, τ2), ?_, ?_, ?_, ou_, at_⟩ <;> (try dsimp only)
               · exact ⟨by omega, hbs (by clear hat hbs; simp_all)⟩
               · omega
               all_goals (first | rfl | (simp [go_sem]; done)))
            | exact ab_
      · rw [partsT, if_neg h6, eExprs, List.map_cons, List.map_nil, eExpr_eq] at hp
        simp only [eTest, eExprs] at hp
        simp only [if_neg h6] at hat hbs
        repeat' first | simp (disch := omega) only [go_sem, hQr, hQn, hQp, wrapK_i64, wrapK_u8, wrapK_u64, Nat.reduceAdd, Nat.reduceBEq, ↓reduceIte, hteq] | refine go_ ?_ | refine cf_ hp ?_ | refine br_ (fun hw => ?_) (fun hw => ?_) <;> try omega | fail
        with_reducible refine loop_i [6, 10, 12, 13, 14, 30, 31, 32, 33, 34, 35, 36, 37, 38, 39, 40, 41, 42, 43, 44, 45, 46, 47, 48, 49, 50] (fun q : Int × Bool × List AObj => [(30, I q.1), (10, .bool q.2.1)]) (fun q => .cells [.bool c.any, .bool c.neg, .lst false ES (c.tests.map eTest)] :: q.2.2) (fun q => ((q.1 = 0 ∧ q.2.1 = true) ∨ (q.1 = 1 ∧ ra.2 = 0 ∧ q.2.1 = va)) ∧ q.2.2[τ.length]? = some (.cells [I t.kind, I t.a.op, I t.a.v.kind, I t.a.v.n, .str t.a.v.s, .str t.a.s, .lst false EX (t.a.l.map eExpr), I t.b.op, I t.b.v.kind, I t.b.v.n, .str t.b.v.s, .str t.b.s, .lst false EX (t.b.l.map eExpr), .bool t.lo, .bool t.hi])) (fun q => (2 - q.1).toNat) (0, true, τ ++ [.cells [I t.kind, I t.a.op, I t.a.v.kind, I t.a.v.n, .str t.a.v.s, .str t.a.s, .lst false EX (t.a.l.map eExpr), I t.b.op, I t.b.v.kind, I t.b.v.n, .str t.b.v.s, .str t.b.s, .lst false EX (t.b.l.map eExpr), .bool t.lo, .bool t.hi]]) ?_ ?_ ?_ ?_
        · exact ⟨.inl ⟨rfl, rfl⟩, by simp⟩
        · rfl
        · exact at_
        clear hp
        rintro ⟨j, ok, τ2⟩ r2 ⟨hj, hk⟩
        dsimp only at hj hk
        have hk2 := fun d : AObj => (List.getElem?_append_left (l₁ := τ2) (l₂ := [d]) (List.getElem?_eq_some_iff.1 hk).1).trans hk
        rcases hj with ⟨rfl, rfl⟩ | ⟨rfl, hra, rfl⟩
        · repeat' first | simp (disch := omega) only [go_sem, hQr, hQn, hQp, wrapK_i64, wrapK_u8, wrapK_u64, Nat.reduceAdd, Nat.reduceBEq, ↓reduceIte, hk, hk2, Int.toNat_one] | refine go_ ?_ | refine cf_ ka ?_ | refine cf_ fa ?_ | refine br_ (fun hw => ?_) (fun hw => ?_) <;> try omega | fail
          all_goals first
            | (refine leafE ?_ rfl; refine congrArg I ?_; symm; refine hat _ ?_ ?_ <;> (clear hat hbs; simp_all; done))
            | (refine ⟨(1, va, τ2 ++ [.cells [I t.a.op, I t.a.v.kind, I t.a.v.n, .str t.a.v.s, .str t.a.s, .lst false EX (t.a.l.map eExpr)]]), ?_, ?_, ?_, ou_, at_⟩ <;> (try dsimp only)
               · exact ⟨.inr ⟨rfl, by assumption, rfl⟩, hk2 _⟩
               · omega
               all_goals (first | rfl | (simp [go_sem]; done)))
            | exact ab_
        · repeat' first | simp (disch := omega) only [go_sem, hQr, hQn, hQp, wrapK_i64, wrapK_u8, wrapK_u64, Nat.reduceAdd, Nat.reduceBEq, ↓reduceIte, hk, hk2] | refine go_ ?_ | refine br_ (fun hw => ?_) (fun hw => ?_) <;> try omega | fail
          all_goals first
            | (refine leafE ?_ rfl; refine congrArg I ?_; symm; refine hat _ ?_ ?_ <;> (clear hat hbs; simp_all; done))
            | (refine ⟨(i + 1, τ2), ?_, ?_, ?_, ou_, at_⟩ <;> (try dsimp only)
               · exact ⟨by omega, hbs (by clear hat hbs; simp_all)⟩
               · omega
               all_goals (first | rfl | (simp [go_sem]; done)))
            | exact ab_
    · repeat' first | refine go_ ?_ | refine br_ (fun hw => ?_) (fun hw => ?_) <;> try omega | fail
      refine leafE ?_ rfl
      rw [typC_non hr (fun k hk => h2 k (by omega))]
end Go.Proofs.YthkhdedadacakaaGreatDoor
