/- PROVED HERE: decretallaw18.DtableClean returns true, whatever the input; the input reads as it did. No conditions but the card's own: the listed variables hold what the program's text lays. -/
import Derived.Test.YthkhdedadacakaaGreatDoorY29
import Derived.Test.YthkhdedadacakaaGreatDoorTie
import Derived.Test.YthkhdedadacakaaGreatDoorCards
import Derived.SevenTiedAt
set_option linter.unnecessarySimpa false
set_option linter.unusedSimpArgs false
set_option linter.unusedVariables false
namespace Go.Proofs.YthkhdedadacakaaGreatDoor
open Go.AM Go.ChangeShapes Go.WideShapes Go.ChangeAt Go.RowKit
set_option maxRecDepth 100000 in
theorem clean_lifted (os : Os) (started : os.Started) (H : Type) (enc : TypeId × Value → H) :
    ReturnsInHanded {} Tryz.checked os 5 .any (fun w args => (Rows.dtableCleanSpec.pre enc Tryz.checked.prog Tryz.f5 [] false w args ∧ laidMetH Tryz.prog laidL w) ∧ sizedMet enc Tryz.checked.prog Tryz.f5 (OpenSpec.ofChange Rows.dtableCleanSpec) false w args) (Rows.dtableCleanSpec.post enc Tryz.checked.prog Tryz.f5 false true false false) := by
  refine stepL #[vTable] started (by kernel_rfl) Tryz.func5 (by kernel_rfl) (by kernel_rfl) (by kernel_rfl) (by kernel_rfl) (by kernel_rfl) ?_
  intro W base args ds gs before hval hW hG
  have hW' := hW
  obtain ⟨p, q, hA, hV, rfl, _, _⟩ := hW
  rw [Tryz.params5] at hA hval
  obtain ⟨v0, d0, rfl, rfl, h0⟩ := trodAll_one hA
  obtain ⟨rfl, rfl⟩ := trodVars_none hV
  obtain ⟨t, hr, hv⟩ := table_of (hval 0 27 v0 rfl rfl) h0
  exact Said_of_CallF (law18_DtableClean t hr) hW' hG kids full (by rw [Tryz.params5]; decide) rfl rfl Tryz.underlying4 rfl rfl (args1 hv)
theorem clean_row : Rows.DtableCleanSaid :=
  OpenClaim.holds_of_wide 5 Tryz.f5 rfl rfl rfl rfl rfl rfl rfl ⟨rfl, rfl, rfl, rfl, rfl⟩ rfl rfl rfl rfl rfl (by kernel_rfl) Tryz.func5 (by kernel_rfl)
    (of_decide_eq_true (by kernel_rfl)) (by unfold Func.isWrapper; first | (rw [if_pos (by decide +kernel)]; kernel_rfl) | (rw [if_neg (by decide +kernel)]; exact ⟨rfl, rfl⟩))
    (fun os started H enc _ => clean_lifted os started H enc)
theorem clean_holds : Rows.DtableCleanCardSaid :=
  Claim7.holds_tied_plain_at .later [] [.data, .data, .data] true (true, "8858e72d443b1405d0176d42c1e4aefa8f57ca076e265e04b8a7bd7b36f733d3") false
    clean_row (fun _ h => by cases h) (by kernel_rfl) (fun _ h => by cases h) dtableClean_row_tie rfl ⟨rfl, rfl⟩ (by kernel_rfl) rfl
    (fun f fn hf hfn => by
      obtain rfl : f = 5 := Option.some.inj ((show Tryz.prog.funcNamed "decretal/decretallaw18.DtableClean" = some 5 by kernel_rfl).symm.trans hf) |>.symm
      obtain rfl : fn = Tryz.f5 := (Option.some.inj (Tryz.func5.symm.trans hfn)).symm
      exact ⟨by kernel_rfl, fun j t ht => by
        rw [Tryz.params5] at ht
        have h3 : t = 27 := by
          rcases j with _ | j
          · simpa using ht.symm
          · simp at ht
        subst h3
        exact (show Tryz.prog.wantsStandIn 27 = false by kernel_rfl)⟩)
    (by kernel_rfl)
end Go.Proofs.YthkhdedadacakaaGreatDoor
