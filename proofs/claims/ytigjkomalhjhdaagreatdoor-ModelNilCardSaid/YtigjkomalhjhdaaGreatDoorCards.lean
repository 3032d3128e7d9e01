/-
  DERIVED. GIVEN WITH THE SEED: THE CARDS: each row of YtigjkomalhjhdaaGreatDoorRows.lean that lists a variable, with what it lists TIED to the program's text (the seventh form; the later family's looks); each row that meets fmt, with fmt's text TOLD by the authors' own Lean function (tested against real Go, not proved from fmt's source: count such statements apart). THE CARD IS WHAT COUNTS. Prove the row's statement (the work); the ties are given (YtigjkomalhjhdaaGreatDoorTie.lean); close each card by the builder's one call (the guide's Derived/Test/ToyasCard.lean, 'card_holds'). Laid BY PROGRAM, IN A SANDBOX (cutbox-door.mjs). By AI agents, Wed Nov 11 2026. No macro, syntax, notation, axiom, sorry.
-/
import Derived.Test.YtigjkomalhjhdaaGreatDoorRows
import GoSem.ClaimSeven
namespace Go.Proofs.YtigjkomalhjhdaaGreatDoor
namespace Rows

/-- THE TIED CARD OF 'decretallaw25.ModelSound'. -/
def modelSoundCard : Claim7 := { stood := { row := modelSoundRow, standIns := [], harness := (true, "21176318acc3d7fe5940c296f315100e0ea7fdf30f434189aa7c25516fae1ecc"), looks := true }, kinds := [], alts := [], laidByText := true, laidKinds := [.data, .data, .data], laidTests := true, laidLooks := .later }
def ModelSoundCardSaid : Prop := Claim7.holds Tryz.pinned (.plain (OpenSpec.ofChange modelSoundSpec)) modelSoundCard

/-- THE TIED CARD OF 'decretallaw25.ModelRefused'. -/
def modelRefusedCard : Claim7 := { stood := { row := modelRefusedRow, standIns := [], harness := (true, "21176318acc3d7fe5940c296f315100e0ea7fdf30f434189aa7c25516fae1ecc"), looks := true }, kinds := [], alts := [], laidByText := true, laidKinds := [.data, .data, .data], laidTests := true, laidLooks := .later }
def ModelRefusedCardSaid : Prop := Claim7.holds Tryz.pinned (.plain (OpenSpec.ofChange modelRefusedSpec)) modelRefusedCard

/-- THE TIED CARD OF 'decretallaw25.ModelCompacts'. -/
def modelCompactsCard : Claim7 := { stood := { row := modelCompactsRow, standIns := [], harness := (true, "21176318acc3d7fe5940c296f315100e0ea7fdf30f434189aa7c25516fae1ecc"), looks := true }, kinds := [], alts := [], laidByText := true, laidKinds := [.data, .data, .data], laidTests := true, laidLooks := .later }
def ModelCompactsCardSaid : Prop := Claim7.holds Tryz.pinned (.plain (OpenSpec.ofChange modelCompactsSpec)) modelCompactsCard

/-- THE TIED CARD OF 'decretallaw25.ModelPlays'. -/
def modelPlaysCard : Claim7 := { stood := { row := modelPlaysRow, standIns := [], harness := (true, "21176318acc3d7fe5940c296f315100e0ea7fdf30f434189aa7c25516fae1ecc"), looks := true }, kinds := [], alts := [], laidByText := true, laidKinds := [.data, .data, .data], laidTests := true, laidLooks := .later }
def ModelPlaysCardSaid : Prop := Claim7.holds Tryz.pinned (.plain (OpenSpec.ofChange modelPlaysSpec)) modelPlaysCard

/-- THE TIED CARD OF 'decretallaw25.ModelNil'. -/
def modelNilCard : Claim7 := { stood := { row := modelNilRow, standIns := [], harness := (true, "21176318acc3d7fe5940c296f315100e0ea7fdf30f434189aa7c25516fae1ecc"), looks := true }, kinds := [], alts := [], laidByText := true, laidKinds := [.data, .data, .data], laidTests := true, laidLooks := .later }
def ModelNilCardSaid : Prop := Claim7.holds Tryz.pinned (.plain (OpenSpec.ofChange modelNilSpec)) modelNilCard

/-- THE SECOND FORM's CARD OF 'decretallaw25.ModelSound'. -/
def modelSoundUptoCard : Claim7 := { stood := { row := modelSoundUptoRow, standIns := [], harness := (true, "21176318acc3d7fe5940c296f315100e0ea7fdf30f434189aa7c25516fae1ecc"), looks := true }, kinds := [], alts := [], laidByText := true, laidKinds := [.data, .data, .data], laidTests := true, laidLooks := .later }
def ModelSoundUptoCardSaid : Prop := Claim7.holds Tryz.pinned (.plain (OpenSpec.upto modelSoundSpec)) modelSoundUptoCard

/-- THE SECOND FORM's CARD OF 'decretallaw25.ModelRefused'. -/
def modelRefusedUptoCard : Claim7 := { stood := { row := modelRefusedUptoRow, standIns := [], harness := (true, "21176318acc3d7fe5940c296f315100e0ea7fdf30f434189aa7c25516fae1ecc"), looks := true }, kinds := [], alts := [], laidByText := true, laidKinds := [.data, .data, .data], laidTests := true, laidLooks := .later }
def ModelRefusedUptoCardSaid : Prop := Claim7.holds Tryz.pinned (.plain (OpenSpec.upto modelRefusedSpec)) modelRefusedUptoCard

/-- THE SECOND FORM's CARD OF 'decretallaw25.ModelCompacts'. -/
def modelCompactsUptoCard : Claim7 := { stood := { row := modelCompactsUptoRow, standIns := [], harness := (true, "21176318acc3d7fe5940c296f315100e0ea7fdf30f434189aa7c25516fae1ecc"), looks := true }, kinds := [], alts := [], laidByText := true, laidKinds := [.data, .data, .data], laidTests := true, laidLooks := .later }
def ModelCompactsUptoCardSaid : Prop := Claim7.holds Tryz.pinned (.plain (OpenSpec.upto modelCompactsSpec)) modelCompactsUptoCard

/-- THE SECOND FORM's CARD OF 'decretallaw25.ModelPlays'. -/
def modelPlaysUptoCard : Claim7 := { stood := { row := modelPlaysUptoRow, standIns := [], harness := (true, "21176318acc3d7fe5940c296f315100e0ea7fdf30f434189aa7c25516fae1ecc"), looks := true }, kinds := [], alts := [], laidByText := true, laidKinds := [.data, .data, .data], laidTests := true, laidLooks := .later }
def ModelPlaysUptoCardSaid : Prop := Claim7.holds Tryz.pinned (.plain (OpenSpec.upto modelPlaysSpec)) modelPlaysUptoCard

/-- THE SECOND FORM's CARD OF 'decretallaw25.ModelNil'. -/
def modelNilUptoCard : Claim7 := { stood := { row := modelNilUptoRow, standIns := [], harness := (true, "21176318acc3d7fe5940c296f315100e0ea7fdf30f434189aa7c25516fae1ecc"), looks := true }, kinds := [], alts := [], laidByText := true, laidKinds := [.data, .data, .data], laidTests := true, laidLooks := .later }
def ModelNilUptoCardSaid : Prop := Claim7.holds Tryz.pinned (.plain (OpenSpec.upto modelNilSpec)) modelNilUptoCard
end Rows
end Go.Proofs.YtigjkomalhjhdaaGreatDoor
