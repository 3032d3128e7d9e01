/- PROVED HERE: decretallaw10.TreeNil returns true, whatever the input; the input reads as it did. No conditions but the card's own: the listed variables hold what the program's text lays. -/
import Derived.Test.YtlmpjjelildedaaGreatDoorW22
import Derived.Test.YtlmpjjelildedaaGreatDoorTie
import Derived.Test.YtlmpjjelildedaaGreatDoorCards
import Derived.SevenTiedAt
set_option linter.unnecessarySimpa false
set_option linter.unusedSectionVars false
set_option linter.unusedSimpArgs false
set_option linter.unusedVariables false
namespace Go.Proofs.YtlmpjjelildedaaGreatDoor
open Go.AM Go.ChangeShapes Go.WideShapes Go.ChangeAt Go.RowKit
set_option maxRecDepth 100000 in
theorem treeNil_lifted (os : Os) (started : os.Started) (H : Type) (enc : TypeId × Value → H) :
    ReturnsInHanded {} Tryz.checked os 3 .any (fun w args => (Rows.treeNilSpec.pre enc Tryz.checked.prog Tryz.f3 [] false w args ∧ laidMetH Tryz.prog laidL w) ∧ sizedMet enc Tryz.checked.prog Tryz.f3 (OpenSpec.ofChange Rows.treeNilSpec) false w args) (Rows.treeNilSpec.post enc Tryz.checked.prog Tryz.f3 false true false false) := by
  refine stepL #[vTAct, .bool false] started (by kernel_rfl) Tryz.func3 (by kernel_rfl) (by kernel_rfl) (by kernel_rfl) (by kernel_rfl) (by kernel_rfl) ?_
  intro W base args ds gs before hval hW hG
  have hW' := hW
  obtain ⟨p, q, hA, hV, rfl, _, _⟩ := hW
  rw [Tryz.params3] at hA hval
  obtain ⟨v0, vs0, d0, ds0, p0, q0, ha, rfl, rfl, h0, hA⟩ := trodAll_cons hA
  obtain ⟨v1, vs1, d1, ds1, p1, q1, rfl, rfl, rfl, h1, hA⟩ := trodAll_cons hA
  obtain ⟨rfl, rfl, rfl⟩ := trodAll_nil hA
  obtain ⟨rfl, rfl⟩ := trodVars_none hV
  obtain rfl : args = #[v0, v1] := by rw [← Array.toList_inj, ha]
  obtain ⟨a0, hv0⟩ := tact_of (hval 0 25 v0 rfl rfl) h0
  obtain ⟨b1, rfl, rfl, rfl⟩ := open_bool Tryz.underlying4 (hval 1 4 v1 rfl rfl) h1
  exact Said_of_CallF (law10_TreeNil a0 b1) hW' hG kids full (by rw [Tryz.params3]; decide) rfl rfl Tryz.underlying4 rfl rfl (args2 hv0 (VR.bool b1))
theorem treeNil_j1 : Rows.treeNilRow.wf (OpenSpec.ofChange Rows.treeNilSpec) = true := by kernel_rfl
theorem treeNil_j2 : namedTie Tryz.checked.prog Rows.treeNilRow.named Rows.treeNilSpec.vars = true := by kernel_rfl
theorem treeNil_j3 : (Rows.treeNilRow.inPlace == Tryz.checked.prog.inPlace 3) = true := by kernel_rfl
theorem treeNil_j4 : (Rows.treeNilRow.unfollowed == Tryz.checked.prog.unfollowed 3) = true := by kernel_rfl
theorem treeNil_j5 : (Rows.treeNilRow.recurses == Tryz.checked.prog.recurses 3) = true := by kernel_rfl
theorem treeNil_j6 : (Rows.treeNilRow.named == Tryz.checked.prog.varsNamed 3) = true := by kernel_rfl
theorem treeNil_j7 : (Rows.treeNilRow.plainKeys == Tryz.checked.prog.plainKeys) = true := by kernel_rfl
theorem treeNil_j8 : (Rows.treeNilRow.lifted == Tryz.checked.prog.liftsFinal) = true := by kernel_rfl
theorem treeNil_closed : joinedFacts Tryz.checked.prog 3 Tryz.f3 Rows.treeNilSpec Rows.treeNilRow = true := by
  unfold joinedFacts
  rw [treeNil_j1, treeNil_j2, treeNil_j3, treeNil_j4, treeNil_j5, treeNil_j6, treeNil_j7, treeNil_j8, fx_laid, fx_maps, fx_stops, fx_enter]
  kernel_rfl
theorem treeNil_row : Rows.TreeNilSaid :=
  OpenClaim.holds_of_wide 3 Tryz.f3 rfl rfl rfl rfl rfl rfl rfl ⟨rfl, rfl, rfl, rfl, rfl⟩ rfl rfl rfl rfl rfl (by kernel_rfl) Tryz.func3 treeNil_closed
    (of_decide_eq_true (by kernel_rfl)) (by unfold Func.isWrapper; first | (rw [if_pos (by decide +kernel)]; kernel_rfl) | (rw [if_neg (by decide +kernel)]; exact ⟨rfl, rfl⟩))
    (fun os started H enc _ => treeNil_lifted os started H enc)
theorem treeNil_holds : Rows.TreeNilCardSaid :=
  Claim7.holds_tied_plain_at .later [] [.data, .pinned] true (true, "3ca7deef7259d807effa43b9d9776233adafbcf68f1b64fc990de8e089a552a2") true
    treeNil_row (fun _ h => by cases h) (by kernel_rfl) (fun _ h => by cases h) treeNil_row_tie rfl ⟨rfl, rfl⟩ (by kernel_rfl) rfl
    (fun f fn hf hfn => by
      obtain rfl : f = 3 := Option.some.inj ((show Tryz.prog.funcNamed "decretal/decretallaw10.TreeNil" = some 3 by kernel_rfl).symm.trans hf) |>.symm
      obtain rfl : fn = Tryz.f3 := (Option.some.inj (Tryz.func3.symm.trans hfn)).symm
      exact ⟨by kernel_rfl, fun j t ht => by
        rw [Tryz.params3] at ht
        have h3 : Tryz.prog.wantsStandIn t = false := by
          rcases j with _ | _ | j
          · obtain rfl : 25 = t := by simpa using ht
            kernel_rfl
          · obtain rfl : 4 = t := by simpa using ht
            kernel_rfl
          · simp at ht
        exact h3⟩)
    (goesBy_gen _ goes_none _ rfl)
end Go.Proofs.YtlmpjjelildedaaGreatDoor
