/- PROVED HERE: decretallaw24.JournalNil returns true, whatever the input; the input reads as it did. No conditions but the card's own: the listed variables hold what the program's text lays. -/
import Derived.Test.YtdohdkdejmhgnaaGreatDoorW28
import Derived.Test.YtdohdkdejmhgnaaGreatDoorTie
import Derived.Test.YtdohdkdejmhgnaaGreatDoorCards
import Derived.SevenTiedAt
set_option linter.unnecessarySimpa false
set_option linter.unusedSectionVars false
set_option linter.unusedSimpArgs false
set_option linter.unusedVariables false
namespace Go.Proofs.YtdohdkdejmhgnaaGreatDoor
open Go.AM Go.ChangeShapes Go.WideShapes Go.ChangeAt Go.RowKit
set_option maxRecDepth 100000 in
theorem journalNil_lifted (os : Os) (started : os.Started) (H : Type) (enc : TypeId × Value → H) :
    ReturnsInHanded {} Tryz.checked os 3 .any (fun w args => (Rows.journalNilSpec.pre enc Tryz.checked.prog Tryz.f3 [] false w args ∧ laidMetH Tryz.prog laidL w) ∧ sizedMet enc Tryz.checked.prog Tryz.f3 (OpenSpec.ofChange Rows.journalNilSpec) false w args) (Rows.journalNilSpec.post enc Tryz.checked.prog Tryz.f3 false true false false) := by
  refine stepL #[vEnt, .int .i64 0] started (by kernel_rfl) Tryz.func3 (by kernel_rfl) (by kernel_rfl) (by kernel_rfl) (by kernel_rfl) (by kernel_rfl) ?_
  intro W base args ds gs before hval hW hG
  have hW' := hW
  obtain ⟨p, q, hA, hV, rfl, _, _⟩ := hW
  rw [Tryz.params3] at hA hval
  obtain ⟨v0, vs0, d0, ds0, p0, q0, ha, rfl, rfl, h0, hA⟩ := trodAll_cons hA
  obtain ⟨v1, vs1, d1, ds1, p1, q1, rfl, rfl, rfl, h1, hA⟩ := trodAll_cons hA
  obtain ⟨rfl, rfl, rfl⟩ := trodAll_nil hA
  obtain ⟨rfl, rfl⟩ := trodVars_none hV
  obtain rfl : args = #[v0, v1] := by rw [← Array.toList_inj, ha]
  obtain ⟨t0, hr0, hv0⟩ := ent_of (hval 0 29 v0 rfl rfl) h0
  obtain ⟨n1, rfl, rfl, rfl, wn1⟩ := open_int Tryz.underlying3 (hval 1 3 v1 rfl rfl) h1
  have hn1 : rng n1 := by simpa [rng, Lit.wf, IntKind.min, IntKind.max, IntKind.signed, IntKind.bits] using wn1
  exact Said_of_CallF (law24_JournalNil t0 n1 hr0 hn1) hW' hG kids full (by rw [Tryz.params3]; decide) rfl rfl Tryz.underlying4 rfl rfl (args2 hv0 (VR.int _ n1))
theorem journalNil_j1 : Rows.journalNilRow.wf (OpenSpec.ofChange Rows.journalNilSpec) = true := by kernel_rfl
theorem journalNil_j2 : namedTie Tryz.checked.prog Rows.journalNilRow.named Rows.journalNilSpec.vars = true := by kernel_rfl
theorem journalNil_j3 : (Rows.journalNilRow.inPlace == Tryz.checked.prog.inPlace 3) = true := by kernel_rfl
theorem journalNil_j4 : (Rows.journalNilRow.unfollowed == Tryz.checked.prog.unfollowed 3) = true := by kernel_rfl
theorem journalNil_j5 : (Rows.journalNilRow.recurses == Tryz.checked.prog.recurses 3) = true := by kernel_rfl
theorem journalNil_j6 : (Rows.journalNilRow.named == Tryz.checked.prog.varsNamed 3) = true := by kernel_rfl
theorem journalNil_j7 : (Rows.journalNilRow.plainKeys == Tryz.checked.prog.plainKeys) = true := by kernel_rfl
theorem journalNil_j8 : (Rows.journalNilRow.lifted == Tryz.checked.prog.liftsFinal) = true := by kernel_rfl
theorem journalNil_closed : joinedFacts Tryz.checked.prog 3 Tryz.f3 Rows.journalNilSpec Rows.journalNilRow = true := by
  unfold joinedFacts
  rw [journalNil_j1, journalNil_j2, journalNil_j3, journalNil_j4, journalNil_j5, journalNil_j6, journalNil_j7, journalNil_j8, fx_laid, fx_maps, fx_stops, fx_enter]
  kernel_rfl
theorem journalNil_row : Rows.JournalNilSaid :=
  OpenClaim.holds_of_wide 3 Tryz.f3 rfl rfl rfl rfl rfl rfl rfl ⟨rfl, rfl, rfl, rfl, rfl⟩ rfl rfl rfl rfl rfl (by kernel_rfl) Tryz.func3 journalNil_closed
    (of_decide_eq_true (by kernel_rfl)) (by unfold Func.isWrapper; first | (rw [if_pos (by decide +kernel)]; kernel_rfl) | (rw [if_neg (by decide +kernel)]; exact ⟨rfl, rfl⟩))
    (fun os started H enc _ => journalNil_lifted os started H enc)
theorem journalNil_holds : Rows.JournalNilCardSaid :=
  Claim7.holds_tied_plain_at .later [] [.data, .pinned] true (true, "76c04b6cf0bb51fe25ee91794cbeed9c3a0476353e9c7917dd31770be04f3e5b") true
    journalNil_row (fun _ h => by cases h) (by kernel_rfl) (fun _ h => by cases h) journalNil_row_tie rfl ⟨rfl, rfl⟩ (by kernel_rfl) rfl
    (fun f fn hf hfn => by
      obtain rfl : f = 3 := Option.some.inj ((show Tryz.prog.funcNamed "decretal/decretallaw24.JournalNil" = some 3 by kernel_rfl).symm.trans hf) |>.symm
      obtain rfl : fn = Tryz.f3 := (Option.some.inj (Tryz.func3.symm.trans hfn)).symm
      exact ⟨by kernel_rfl, fun j t ht => by
        rw [Tryz.params3] at ht
        have h3 : Tryz.prog.wantsStandIn t = false := by
          rcases j with _ | _ | j
          · obtain rfl : 29 = t := by simpa using ht
            kernel_rfl
          · obtain rfl : 3 = t := by simpa using ht
            kernel_rfl
          · simp at ht
        exact h3⟩)
    (goesBy_gen _ goes_none _ rfl)
end Go.Proofs.YtdohdkdejmhgnaaGreatDoor
