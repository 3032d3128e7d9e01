/- PROVED HERE: decretallaw26.RepoNil returns true, whatever the input; the input reads as it did. No conditions but the card's own: the listed variables hold what the program's text lays. -/
import Derived.Test.YtnfendddolhcoaaGreatDoorW27
import Derived.Test.YtnfendddolhcoaaGreatDoorTie
import Derived.Test.YtnfendddolhcoaaGreatDoorCards
import Derived.SevenTiedAt
set_option linter.unnecessarySimpa false
set_option linter.unusedSectionVars false
set_option linter.unusedSimpArgs false
set_option linter.unusedVariables false
namespace Go.Proofs.YtnfendddolhcoaaGreatDoor
open Go.AM Go.ChangeShapes Go.WideShapes Go.ChangeAt Go.RowKit
set_option maxRecDepth 100000 in
theorem repoNil_lifted (os : Os) (started : os.Started) (H : Type) (enc : TypeId × Value → H) :
    ReturnsInHanded {} Tryz.checked os 3 .any (fun w args => (Rows.repoNilSpec.pre enc Tryz.checked.prog Tryz.f3 [] false w args ∧ laidMetH Tryz.prog laidL w) ∧ sizedMet enc Tryz.checked.prog Tryz.f3 (OpenSpec.ofChange Rows.repoNilSpec) false w args) (Rows.repoNilSpec.post enc Tryz.checked.prog Tryz.f3 false true false false) := by
  refine stepL #[vAct, .bool false] started (by kernel_rfl) Tryz.func3 (by kernel_rfl) (by kernel_rfl) (by kernel_rfl) (by kernel_rfl) (by kernel_rfl) ?_
  intro W base args ds gs before hval hW hG
  have hW' := hW
  obtain ⟨p, q, hA, hV, rfl, _, _⟩ := hW
  rw [Tryz.params3] at hA hval
  obtain ⟨v0, vs0, d0, ds0, p0, q0, ha, rfl, rfl, h0, hA⟩ := trodAll_cons hA
  obtain ⟨v1, vs1, d1, ds1, p1, q1, rfl, rfl, rfl, h1, hA⟩ := trodAll_cons hA
  obtain ⟨rfl, rfl, rfl⟩ := trodAll_nil hA
  obtain ⟨rfl, rfl⟩ := trodVars_none hV
  obtain rfl : args = #[v0, v1] := by rw [← Array.toList_inj, ha]
  obtain ⟨a0, hv0⟩ := act_of (hval 0 30 v0 rfl rfl) h0
  obtain ⟨b1, rfl, rfl, rfl⟩ := open_bool Tryz.underlying4 (hval 1 4 v1 rfl rfl) h1
  exact Said_of_CallF (law26_RepoNil a0 b1) hW' hG kids full (by rw [Tryz.params3]; decide) rfl rfl Tryz.underlying4 rfl rfl (args2 hv0 (VR.bool b1))
theorem repoNil_j1 : Rows.repoNilRow.wf (OpenSpec.ofChange Rows.repoNilSpec) = true := by kernel_rfl
theorem repoNil_j2 : namedTie Tryz.checked.prog Rows.repoNilRow.named Rows.repoNilSpec.vars = true := by kernel_rfl
theorem repoNil_j3 : (Rows.repoNilRow.inPlace == Tryz.checked.prog.inPlace 3) = true := by kernel_rfl
theorem repoNil_j4 : (Rows.repoNilRow.unfollowed == Tryz.checked.prog.unfollowed 3) = true := by kernel_rfl
theorem repoNil_j5 : (Rows.repoNilRow.recurses == Tryz.checked.prog.recurses 3) = true := by kernel_rfl
theorem repoNil_j6 : (Rows.repoNilRow.named == Tryz.checked.prog.varsNamed 3) = true := by kernel_rfl
theorem repoNil_j7 : (Rows.repoNilRow.plainKeys == Tryz.checked.prog.plainKeys) = true := by kernel_rfl
theorem repoNil_j8 : (Rows.repoNilRow.lifted == Tryz.checked.prog.liftsFinal) = true := by kernel_rfl
theorem repoNil_closed : joinedFacts Tryz.checked.prog 3 Tryz.f3 Rows.repoNilSpec Rows.repoNilRow = true := by
  unfold joinedFacts
  rw [repoNil_j1, repoNil_j2, repoNil_j3, repoNil_j4, repoNil_j5, repoNil_j6, repoNil_j7, repoNil_j8, fx_laid, fx_maps, fx_stops, fx_enter]
  kernel_rfl
theorem repoNil_row : Rows.RepoNilSaid :=
  OpenClaim.holds_of_wide 3 Tryz.f3 rfl rfl rfl rfl rfl rfl rfl ⟨rfl, rfl, rfl, rfl, rfl⟩ rfl rfl rfl rfl rfl (by kernel_rfl) Tryz.func3 repoNil_closed
    (of_decide_eq_true (by kernel_rfl)) (by unfold Func.isWrapper; first | (rw [if_pos (by decide +kernel)]; kernel_rfl) | (rw [if_neg (by decide +kernel)]; exact ⟨rfl, rfl⟩))
    (fun os started H enc _ => repoNil_lifted os started H enc)
theorem repoNil_holds : Rows.RepoNilCardSaid :=
  Claim7.holds_tied_plain_at .later [] [.data, .data, .data, .data, .pinned] true (true, "fad1e96a412cac3fdded98c6da0c9dc7e48f08aca29a57e001d7cea19bda9c74") true
    repoNil_row (fun _ h => by cases h) (by kernel_rfl) (fun _ h => by cases h) repoNil_row_tie rfl ⟨rfl, rfl⟩ (by kernel_rfl) rfl
    (fun f fn hf hfn => by
      obtain rfl : f = 3 := Option.some.inj ((show Tryz.prog.funcNamed "decretal/decretallaw26.RepoNil" = some 3 by kernel_rfl).symm.trans hf) |>.symm
      obtain rfl : fn = Tryz.f3 := (Option.some.inj (Tryz.func3.symm.trans hfn)).symm
      exact ⟨by kernel_rfl, fun j t ht => by
        rw [Tryz.params3] at ht
        have h3 : Tryz.prog.wantsStandIn t = false := by
          rcases j with _ | _ | j
          · obtain rfl : 30 = t := by simpa using ht
            kernel_rfl
          · obtain rfl : 4 = t := by simpa using ht
            kernel_rfl
          · simp at ht
        exact h3⟩)
    (goesBy_gen _ goes_none _ rfl)
end Go.Proofs.YtnfendddolhcoaaGreatDoor
