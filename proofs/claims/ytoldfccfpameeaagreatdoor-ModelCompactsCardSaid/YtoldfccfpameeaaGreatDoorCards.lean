/-
  DERIVED. GIVEN WITH THE SEED: THE CARDS: each row of YtoldfccfpameeaaGreatDoorRows.lean that lists a variable, with what it lists TIED to the program's text (the seventh form; the later family's looks); each row that meets fmt, with fmt's text TOLD by the authors' own Lean function (tested against real Go, not proved from fmt's source: count such statements apart). THE CARD IS WHAT COUNTS. Prove the row's statement (the work); the ties are given (YtoldfccfpameeaaGreatDoorTie.lean); close each card by the builder's one call (the guide's Derived/Test/ToyasCard.lean, 'card_holds'). Laid BY PROGRAM, IN A SANDBOX (cutbox-door.mjs). By AI agents, Wed Nov 11 2026. No macro, syntax, notation, axiom, sorry.
-/
import Derived.Test.YtoldfccfpameeaaGreatDoorRows
import GoSem.ClaimSeven
namespace Go.Proofs.YtoldfccfpameeaaGreatDoor
namespace Rows

/-- THE TIED CARD OF 'decretallaw25.ModelSound'. -/
def modelSoundCard : Claim7 := { stood := { row := modelSoundRow, standIns := [], harness := (true, "9bcb15f2d34581820abdc5bc8f3bb99517f0a42d1064fceca4edbae380a54eb6"), looks := true }, kinds := [], alts := [], laidByText := true, laidKinds := [.data, .data, .data], laidTests := true, laidLooks := .later }
def ModelSoundCardSaid : Prop := Claim7.holds Tryz.pinned (.plain (OpenSpec.ofChange modelSoundSpec)) modelSoundCard

/-- THE TIED CARD OF 'decretallaw25.ModelRefused'. -/
def modelRefusedCard : Claim7 := { stood := { row := modelRefusedRow, standIns := [], harness := (true, "9bcb15f2d34581820abdc5bc8f3bb99517f0a42d1064fceca4edbae380a54eb6"), looks := true }, kinds := [], alts := [], laidByText := true, laidKinds := [.data, .data, .data], laidTests := true, laidLooks := .later }
def ModelRefusedCardSaid : Prop := Claim7.holds Tryz.pinned (.plain (OpenSpec.ofChange modelRefusedSpec)) modelRefusedCard

/-- THE TIED CARD OF 'decretallaw25.ModelCompacts'. -/
def modelCompactsCard : Claim7 := { stood := { row := modelCompactsRow, standIns := [], harness := (true, "9bcb15f2d34581820abdc5bc8f3bb99517f0a42d1064fceca4edbae380a54eb6"), looks := true }, kinds := [], alts := [], laidByText := true, laidKinds := [.data, .data, .data], laidTests := true, laidLooks := .later }
def ModelCompactsCardSaid : Prop := Claim7.holds Tryz.pinned (.plain (OpenSpec.ofChange modelCompactsSpec)) modelCompactsCard

/-- THE SECOND FORM's CARD OF 'decretallaw25.ModelSound'. -/
def modelSoundUptoCard : Claim7 := { stood := { row := modelSoundUptoRow, standIns := [], harness := (true, "9bcb15f2d34581820abdc5bc8f3bb99517f0a42d1064fceca4edbae380a54eb6"), looks := true }, kinds := [], alts := [], laidByText := true, laidKinds := [.data, .data, .data], laidTests := true, laidLooks := .later }
def ModelSoundUptoCardSaid : Prop := Claim7.holds Tryz.pinned (.plain (OpenSpec.upto modelSoundSpec)) modelSoundUptoCard

/-- THE SECOND FORM's CARD OF 'decretallaw25.ModelRefused'. -/
def modelRefusedUptoCard : Claim7 := { stood := { row := modelRefusedUptoRow, standIns := [], harness := (true, "9bcb15f2d34581820abdc5bc8f3bb99517f0a42d1064fceca4edbae380a54eb6"), looks := true }, kinds := [], alts := [], laidByText := true, laidKinds := [.data, .data, .data], laidTests := true, laidLooks := .later }
def ModelRefusedUptoCardSaid : Prop := Claim7.holds Tryz.pinned (.plain (OpenSpec.upto modelRefusedSpec)) modelRefusedUptoCard

/-- THE SECOND FORM's CARD OF 'decretallaw25.ModelCompacts'. -/
def modelCompactsUptoCard : Claim7 := { stood := { row := modelCompactsUptoRow, standIns := [], harness := (true, "9bcb15f2d34581820abdc5bc8f3bb99517f0a42d1064fceca4edbae380a54eb6"), looks := true }, kinds := [], alts := [], laidByText := true, laidKinds := [.data, .data, .data], laidTests := true, laidLooks := .later }
def ModelCompactsUptoCardSaid : Prop := Claim7.holds Tryz.pinned (.plain (OpenSpec.upto modelCompactsSpec)) modelCompactsUptoCard
end Rows
end Go.Proofs.YtoldfccfpameeaaGreatDoor
