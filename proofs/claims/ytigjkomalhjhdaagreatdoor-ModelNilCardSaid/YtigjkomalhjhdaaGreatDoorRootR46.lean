/- PROVED HERE: decretallaw25.ModelNil returns true, whatever the input; the input reads as it did. No conditions but the card's own: the listed variables hold what the program's text lays. -/
import Derived.Test.YtigjkomalhjhdaaGreatDoorW22
import Derived.Test.YtigjkomalhjhdaaGreatDoorTie
import Derived.Test.YtigjkomalhjhdaaGreatDoorCards
import Derived.SevenTiedAt
set_option linter.unnecessarySimpa false
set_option linter.unusedSimpArgs false
set_option linter.unusedVariables false
namespace Go.Proofs.YtigjkomalhjhdaaGreatDoor
open Go.AM Go.ChangeShapes Go.WideShapes Go.ChangeAt Go.RowKit
set_option maxRecDepth 100000 in
theorem modelNil_lifted (os : Os) (started : os.Started) (H : Type) (enc : TypeId × Value → H) :
    ReturnsInHanded {} Tryz.checked os 7 .any (fun w args => (Rows.modelNilSpec.pre enc Tryz.checked.prog Tryz.f7 [] false w args ∧ laidMetH Tryz.prog laidL w) ∧ sizedMet enc Tryz.checked.prog Tryz.f7 (OpenSpec.ofChange Rows.modelNilSpec) false w args) (Rows.modelNilSpec.post enc Tryz.checked.prog Tryz.f7 false true false false) := by
  refine stepL #[vAct, .bool false] started (by kernel_rfl) Tryz.func7 (by kernel_rfl) (by kernel_rfl) (by kernel_rfl) (by kernel_rfl) (by kernel_rfl) ?_
  intro W base args ds gs before hval hW hG
  have hW' := hW
  obtain ⟨p, q, hA, hV, rfl, _, _⟩ := hW
  rw [Tryz.params7] at hA hval
  obtain ⟨v0, vs0, d0, ds0, p0, q0, ha, rfl, rfl, h0, hA⟩ := trodAll_cons hA
  obtain ⟨v1, vs1, d1, ds1, p1, q1, rfl, rfl, rfl, h1, hA⟩ := trodAll_cons hA
  obtain ⟨rfl, rfl, rfl⟩ := trodAll_nil hA
  obtain ⟨rfl, rfl⟩ := trodVars_none hV
  obtain rfl : args = #[v0, v1] := by rw [← Array.toList_inj, ha]
  obtain ⟨a0, hv0⟩ := act_of (hval 0 37 v0 rfl rfl) h0
  obtain ⟨b1, rfl, rfl, rfl⟩ := open_bool Tryz.underlying4 (hval 1 4 v1 rfl rfl) h1
  exact Said_of_CallF (law25_ModelNil a0 b1) hW' hG kids full (by rw [Tryz.params7]; decide) rfl rfl Tryz.underlying4 rfl rfl (args2 hv0 (VR.bool b1))
theorem modelNil_j1 : Rows.modelNilRow.wf (OpenSpec.ofChange Rows.modelNilSpec) = true := by kernel_rfl
theorem modelNil_j2 : namedTie Tryz.checked.prog Rows.modelNilRow.named Rows.modelNilSpec.vars = true := by kernel_rfl
theorem modelNil_j3 : (Rows.modelNilRow.inPlace == Tryz.checked.prog.inPlace 7) = true := by kernel_rfl
theorem modelNil_j4 : (Rows.modelNilRow.unfollowed == Tryz.checked.prog.unfollowed 7) = true := by kernel_rfl
theorem modelNil_j5 : (Rows.modelNilRow.recurses == Tryz.checked.prog.recurses 7) = true := by kernel_rfl
theorem modelNil_j6 : (Rows.modelNilRow.named == Tryz.checked.prog.varsNamed 7) = true := by kernel_rfl
theorem modelNil_j7 : (Rows.modelNilRow.plainKeys == Tryz.checked.prog.plainKeys) = true := by kernel_rfl
theorem modelNil_j8 : (Rows.modelNilRow.lifted == Tryz.checked.prog.liftsFinal) = true := by kernel_rfl
theorem modelNil_closed : joinedFacts Tryz.checked.prog 7 Tryz.f7 Rows.modelNilSpec Rows.modelNilRow = true := by
  unfold joinedFacts
  rw [modelNil_j1, modelNil_j2, modelNil_j3, modelNil_j4, modelNil_j5, modelNil_j6, modelNil_j7, modelNil_j8, fx_laid, fx_maps, fx_stops, fx_enter]
  kernel_rfl
theorem modelNil_row : Rows.ModelNilSaid :=
  OpenClaim.holds_of_wide 7 Tryz.f7 rfl rfl rfl rfl rfl rfl rfl ⟨rfl, rfl, rfl, rfl, rfl⟩ rfl rfl rfl rfl rfl (by kernel_rfl) Tryz.func7 modelNil_closed
    (of_decide_eq_true (by kernel_rfl)) (by unfold Func.isWrapper; first | (rw [if_pos (by decide +kernel)]; kernel_rfl) | (rw [if_neg (by decide +kernel)]; exact ⟨rfl, rfl⟩))
    (fun os started H enc _ => modelNil_lifted os started H enc)
theorem modelNil_holds : Rows.ModelNilCardSaid :=
  Claim7.holds_tied_plain_at .later [] [.data, .data, .data] true (true, "21176318acc3d7fe5940c296f315100e0ea7fdf30f434189aa7c25516fae1ecc") true
    modelNil_row (fun _ h => by cases h) (by kernel_rfl) (fun _ h => by cases h) modelNil_row_tie rfl ⟨rfl, rfl⟩ (by kernel_rfl) rfl
    (fun f fn hf hfn => by
      obtain rfl : f = 7 := Option.some.inj ((show Tryz.prog.funcNamed "decretal/decretallaw25.ModelNil" = some 7 by kernel_rfl).symm.trans hf) |>.symm
      obtain rfl : fn = Tryz.f7 := (Option.some.inj (Tryz.func7.symm.trans hfn)).symm
      exact ⟨by kernel_rfl, fun j t ht => by
        rw [Tryz.params7] at ht
        have h3 : Tryz.prog.wantsStandIn t = false := by
          rcases j with _ | _ | j
          · obtain rfl : 37 = t := by simpa using ht
            kernel_rfl
          · obtain rfl : 4 = t := by simpa using ht
            kernel_rfl
          · simp at ht
        exact h3⟩)
    (goesBy_gen _ goes_none _ rfl)
end Go.Proofs.YtigjkomalhjhdaaGreatDoor
