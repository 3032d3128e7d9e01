/- PROVED HERE: decretallaw28.DeskNil returns true, whatever the input; the input reads as it did. No conditions but the card's own: the listed variables hold what the program's text lays. -/
import Derived.Test.YtnpkjelldjnepaaGreatDoorW23
import Derived.Test.YtnpkjelldjnepaaGreatDoorTie
import Derived.Test.YtnpkjelldjnepaaGreatDoorCards
import Derived.SevenTiedAt
set_option linter.unusedSectionVars false
set_option linter.unnecessarySimpa false
set_option linter.unusedSimpArgs false
set_option linter.unusedVariables false
namespace Go.Proofs.YtnpkjelldjnepaaGreatDoor
open Go.AM Go.ChangeShapes Go.WideShapes Go.ChangeAt Go.RowKit
set_option maxRecDepth 100000 in
theorem deskNil_lifted (os : Os) (started : os.Started) (H : Type) (enc : TypeId × Value → H) :
    ReturnsInHanded {} Tryz.checked os 3 .any (fun w args => (Rows.deskNilSpec.pre enc Tryz.checked.prog Tryz.f3 [] false w args ∧ laidMetH Tryz.prog laidL w) ∧ sizedMet enc Tryz.checked.prog Tryz.f3 (OpenSpec.ofChange Rows.deskNilSpec) false w args) (Rows.deskNilSpec.post enc Tryz.checked.prog Tryz.f3 false true false false) := by
  refine stepL #[vCmd] started (by kernel_rfl) Tryz.func3 (by kernel_rfl) (by kernel_rfl) (by kernel_rfl) (by kernel_rfl) (by kernel_rfl) ?_
  intro W base args ds gs before hval hW hG
  have hW' := hW
  obtain ⟨p, q, hA, hV, rfl, _, _⟩ := hW
  rw [Tryz.params3] at hA hval
  obtain ⟨v0, vs0, d0, ds0, p0, q0, ha, rfl, rfl, h0, hA⟩ := trodAll_cons hA
  obtain ⟨rfl, rfl, rfl⟩ := trodAll_nil hA
  obtain ⟨rfl, rfl⟩ := trodVars_none hV
  obtain rfl : args = #[v0] := by rw [← Array.toList_inj, ha]
  obtain ⟨a0, hv0⟩ := cmd_of (hval 0 30 v0 rfl rfl) h0
  exact Said_of_CallF (law28_DeskNil a0) hW' hG kids full (by rw [Tryz.params3]; decide) rfl rfl Tryz.underlying4 rfl rfl (args1 hv0)
theorem deskNil_j1 : Rows.deskNilRow.wf (OpenSpec.ofChange Rows.deskNilSpec) = true := by kernel_rfl
theorem deskNil_j2 : namedTie Tryz.checked.prog Rows.deskNilRow.named Rows.deskNilSpec.vars = true := by kernel_rfl
theorem deskNil_j3 : (Rows.deskNilRow.inPlace == Tryz.checked.prog.inPlace 3) = true := by kernel_rfl
theorem deskNil_j4 : (Rows.deskNilRow.unfollowed == Tryz.checked.prog.unfollowed 3) = true := by kernel_rfl
theorem deskNil_j5 : (Rows.deskNilRow.recurses == Tryz.checked.prog.recurses 3) = true := by kernel_rfl
theorem deskNil_j6 : (Rows.deskNilRow.named == Tryz.checked.prog.varsNamed 3) = true := by kernel_rfl
theorem deskNil_j7 : (Rows.deskNilRow.plainKeys == Tryz.checked.prog.plainKeys) = true := by kernel_rfl
theorem deskNil_j8 : (Rows.deskNilRow.lifted == Tryz.checked.prog.liftsFinal) = true := by kernel_rfl
theorem deskNil_closed : joinedFacts Tryz.checked.prog 3 Tryz.f3 Rows.deskNilSpec Rows.deskNilRow = true := by
  unfold joinedFacts
  rw [deskNil_j1, deskNil_j2, deskNil_j3, deskNil_j4, deskNil_j5, deskNil_j6, deskNil_j7, deskNil_j8, fx_laid, fx_maps, fx_stops, fx_enter]
  kernel_rfl
theorem deskNil_row : Rows.DeskNilSaid :=
  OpenClaim.holds_of_wide 3 Tryz.f3 rfl rfl rfl rfl rfl rfl rfl ⟨rfl, rfl, rfl, rfl, rfl⟩ rfl rfl rfl rfl rfl (by kernel_rfl) Tryz.func3 deskNil_closed
    (of_decide_eq_true (by kernel_rfl)) (by unfold Func.isWrapper; first | (rw [if_pos (by decide +kernel)]; kernel_rfl) | (rw [if_neg (by decide +kernel)]; exact ⟨rfl, rfl⟩))
    (fun os started H enc _ => deskNil_lifted os started H enc)
theorem deskNil_holds : Rows.DeskNilCardSaid :=
  Claim7.holds_tied_plain_at .later [] [.data, .data, .data] true (true, "68c100907104698159f21ee9cdbfa0d20039fc167130be807e3fb33702038572") true
    deskNil_row (fun _ h => by cases h) (by kernel_rfl) (fun _ h => by cases h) deskNil_row_tie rfl ⟨rfl, rfl⟩ (by kernel_rfl) rfl
    (fun f fn hf hfn => by
      obtain rfl : f = 3 := Option.some.inj ((show Tryz.prog.funcNamed "decretal/decretallaw28.DeskNil" = some 3 by kernel_rfl).symm.trans hf) |>.symm
      obtain rfl : fn = Tryz.f3 := (Option.some.inj (Tryz.func3.symm.trans hfn)).symm
      exact ⟨by kernel_rfl, fun j t ht => by
        rw [Tryz.params3] at ht
        have h3 : Tryz.prog.wantsStandIn t = false := by
          rcases j with _ | j
          · obtain rfl : 30 = t := by simpa using ht
            kernel_rfl
          · simp at ht
        exact h3⟩)
    (goesBy_gen _ goes_none _ rfl)
end Go.Proofs.YtnpkjelldjnepaaGreatDoor
