/-
  DERIVED. GIVEN WITH THE SEED: THE CARDS: each row of YtophdhenjdlbeaaGreatDoorRows.lean that lists a variable, with what it lists TIED to the program's text (the seventh form; the later family's looks); each row that meets fmt, with fmt's text TOLD by the authors' own Lean function (tested against real Go, not proved from fmt's source: count such statements apart). THE CARD IS WHAT COUNTS. Prove the row's statement (the work); the ties are given (YtophdhenjdlbeaaGreatDoorTie.lean); close each card by the builder's one call (the guide's Derived/Test/ToyasCard.lean, 'card_holds'). Laid BY PROGRAM, IN A SANDBOX (cutbox-door.mjs). By AI agents, Wed Nov 11 2026. No macro, syntax, notation, axiom, sorry.
-/
import Derived.Test.YtophdhenjdlbeaaGreatDoorRows
import GoSem.ClaimSeven
namespace Go.Proofs.YtophdhenjdlbeaaGreatDoor
namespace Rows

/-- THE TIED CARD OF 'decretallaw28.DeskSame'. -/
def deskSameCard : Claim7 := { stood := { row := deskSameRow, standIns := [], harness := (true, "b678c3bf42f1d9f7f42f3f5d2fbeceb7c01dad7956aa05984f37040f13f173f8"), looks := true }, kinds := [], alts := [], laidByText := true, laidKinds := [.data, .data, .data], laidTests := true, laidLooks := .later }
def DeskSameCardSaid : Prop := Claim7.holds Tryz.pinned (.plain (OpenSpec.ofChange deskSameSpec)) deskSameCard

/-- THE SECOND FORM's CARD OF 'decretallaw28.DeskSame'. -/
def deskSameUptoCard : Claim7 := { stood := { row := deskSameUptoRow, standIns := [], harness := (true, "b678c3bf42f1d9f7f42f3f5d2fbeceb7c01dad7956aa05984f37040f13f173f8"), looks := true }, kinds := [], alts := [], laidByText := true, laidKinds := [.data, .data, .data], laidTests := true, laidLooks := .later }
def DeskSameUptoCardSaid : Prop := Claim7.holds Tryz.pinned (.plain (OpenSpec.upto deskSameSpec)) deskSameUptoCard
end Rows
end Go.Proofs.YtophdhenjdlbeaaGreatDoor
