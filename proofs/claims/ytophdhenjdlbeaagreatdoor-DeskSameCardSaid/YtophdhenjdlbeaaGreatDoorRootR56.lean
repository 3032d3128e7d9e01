/- PROVED HERE: decretallaw28.DeskSame returns true, whatever the input; the input reads as it did. No conditions but the card's own: the listed variables hold what the program's text lays. -/
import Derived.Test.YtophdhenjdlbeaaGreatDoorW25
import Derived.Test.YtophdhenjdlbeaaGreatDoorTie
import Derived.Test.YtophdhenjdlbeaaGreatDoorCards
import Derived.SevenTiedAt
set_option linter.unnecessarySimpa false
set_option linter.unusedSectionVars false
set_option linter.unusedSimpArgs false
set_option linter.unusedVariables false
namespace Go.Proofs.YtophdhenjdlbeaaGreatDoor
open Go.AM Go.ChangeShapes Go.WideShapes Go.ChangeAt Go.RowKit
set_option maxRecDepth 100000 in
theorem deskSame_lifted (os : Os) (started : os.Started) (H : Type) (enc : TypeId × Value → H) :
    ReturnsInHanded {} Tryz.checked os 3 .any (fun w args => (Rows.deskSameSpec.pre enc Tryz.checked.prog Tryz.f3 [] false w args ∧ laidMetH Tryz.prog laidL w) ∧ sizedMet enc Tryz.checked.prog Tryz.f3 (OpenSpec.ofChange Rows.deskSameSpec) false w args) (Rows.deskSameSpec.post enc Tryz.checked.prog Tryz.f3 false true false false) := by
  refine stepL #[vRep, vRep] started (by kernel_rfl) Tryz.func3 (by kernel_rfl) (by kernel_rfl) (by kernel_rfl) (by kernel_rfl) (by kernel_rfl) ?_
  intro W base args ds gs before hval hW hwt hG
  have hW' := hW
  obtain ⟨p, q, hA, hV, rfl, _, _⟩ := hW
  rw [Tryz.params3] at hA hval hwt
  obtain ⟨v0, vs0, d0, ds0, p0, q0, ha, rfl, rfl, h0, hA⟩ := trodAll_cons hA
  obtain ⟨v1, vs1, d1, ds1, p1, q1, rfl, rfl, rfl, h1, hA⟩ := trodAll_cons hA
  obtain ⟨rfl, rfl, rfl⟩ := trodAll_nil hA
  obtain ⟨rfl, rfl⟩ := trodVars_none hV
  obtain rfl : args = #[v0, v1] := by rw [← Array.toList_inj, ha]
  simp only [List.cons_append, List.nil_append, List.append_nil, DataW.weightsEach, List.all_append, Bool.and_eq_true] at hwt
  obtain ⟨a0, hr0, hv0⟩ := rep_of (hval 0 34 v0 rfl rfl) h0 hwt.1
  obtain ⟨a1, hr1, hv1⟩ := rep_of (hval 1 34 v1 rfl rfl) h1 hwt.2.1
  exact Said_of_CallF (law28_DeskSame a0 a1 hr0 hr1) hW' hG kids full (by rw [Tryz.params3]; decide) rfl rfl Tryz.underlying4 rfl rfl (args2 hv0 hv1)
theorem deskSame_j1 : Rows.deskSameRow.wf (OpenSpec.ofChange Rows.deskSameSpec) = true := by kernel_rfl
theorem deskSame_j2 : namedTie Tryz.checked.prog Rows.deskSameRow.named Rows.deskSameSpec.vars = true := by kernel_rfl
theorem deskSame_j3 : (Rows.deskSameRow.inPlace == Tryz.checked.prog.inPlace 3) = true := by kernel_rfl
theorem deskSame_j4 : (Rows.deskSameRow.unfollowed == Tryz.checked.prog.unfollowed 3) = true := by kernel_rfl
theorem deskSame_j5 : (Rows.deskSameRow.recurses == Tryz.checked.prog.recurses 3) = true := by kernel_rfl
theorem deskSame_j6 : (Rows.deskSameRow.named == Tryz.checked.prog.varsNamed 3) = true := by kernel_rfl
theorem deskSame_j7 : (Rows.deskSameRow.plainKeys == Tryz.checked.prog.plainKeys) = true := by kernel_rfl
theorem deskSame_j8 : (Rows.deskSameRow.lifted == Tryz.checked.prog.liftsFinal) = true := by kernel_rfl
theorem deskSame_closed : joinedFacts Tryz.checked.prog 3 Tryz.f3 Rows.deskSameSpec Rows.deskSameRow = true := by
  unfold joinedFacts
  rw [deskSame_j1, deskSame_j2, deskSame_j3, deskSame_j4, deskSame_j5, deskSame_j6, deskSame_j7, deskSame_j8, fx_laid, fx_maps, fx_stops, fx_enter]
  kernel_rfl
theorem deskSame_row : Rows.DeskSameSaid :=
  OpenClaim.holds_of_wide 3 Tryz.f3 rfl rfl rfl rfl rfl rfl rfl ⟨rfl, rfl, rfl, rfl, rfl⟩ rfl rfl rfl rfl rfl (by kernel_rfl) Tryz.func3 deskSame_closed
    (of_decide_eq_true (by kernel_rfl)) (by unfold Func.isWrapper; first | (rw [if_pos (by decide +kernel)]; kernel_rfl) | (rw [if_neg (by decide +kernel)]; exact ⟨rfl, rfl⟩))
    (fun os started H enc _ => deskSame_lifted os started H enc)
theorem deskSame_holds : Rows.DeskSameCardSaid :=
  Claim7.holds_tied_plain_at .later [] [.data, .data, .data] true (true, "b678c3bf42f1d9f7f42f3f5d2fbeceb7c01dad7956aa05984f37040f13f173f8") true
    deskSame_row (fun _ h => by cases h) (by kernel_rfl) (fun _ h => by cases h) deskSame_row_tie rfl ⟨rfl, rfl⟩ (by kernel_rfl) rfl
    (fun f fn hf hfn => by
      obtain rfl : f = 3 := Option.some.inj ((show Tryz.prog.funcNamed "decretal/decretallaw28.DeskSame" = some 3 by kernel_rfl).symm.trans hf) |>.symm
      obtain rfl : fn = Tryz.f3 := (Option.some.inj (Tryz.func3.symm.trans hfn)).symm
      exact ⟨by kernel_rfl, fun j t ht => by
        rw [Tryz.params3] at ht
        have h3 : Tryz.prog.wantsStandIn t = false := by
          rcases j with _ | _ | j
          · obtain rfl : 34 = t := by simpa using ht
            kernel_rfl
          · obtain rfl : 34 = t := by simpa using ht
            kernel_rfl
          · simp at ht
        exact h3⟩)
    (goesBy_gen _ goes_none _ rfl)
end Go.Proofs.YtophdhenjdlbeaaGreatDoor
