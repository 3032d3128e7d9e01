/-
  DERIVED. GIVEN WITH THE SEED: THE CARDS: each row of YtnfendddolhcoaaGreatDoorRows.lean that lists a variable, with what it lists TIED to the program's text (the seventh form; the later family's looks); each row that meets fmt, with fmt's text TOLD by the authors' own Lean function (tested against real Go, not proved from fmt's source: count such statements apart). THE CARD IS WHAT COUNTS. Prove the row's statement (the work); the ties are given (YtnfendddolhcoaaGreatDoorTie.lean); close each card by the builder's one call (the guide's Derived/Test/ToyasCard.lean, 'card_holds'). Laid BY PROGRAM, IN A SANDBOX (cutbox-door.mjs). By AI agents, Wed Nov 11 2026. No macro, syntax, notation, axiom, sorry.
-/
import Derived.Test.YtnfendddolhcoaaGreatDoorRows
import GoSem.ClaimSeven
namespace Go.Proofs.YtnfendddolhcoaaGreatDoor
namespace Rows

/-- THE TIED CARD OF 'decretallaw26.RepoNil'. -/
def repoNilCard : Claim7 := { stood := { row := repoNilRow, standIns := [], harness := (true, "fad1e96a412cac3fdded98c6da0c9dc7e48f08aca29a57e001d7cea19bda9c74"), looks := true }, kinds := [], alts := [], laidByText := true, laidKinds := [.data, .data, .data, .data, .pinned], laidTests := true, laidLooks := .later }
def RepoNilCardSaid : Prop := Claim7.holds Tryz.pinned (.plain (OpenSpec.ofChange repoNilSpec)) repoNilCard

/-- THE SECOND FORM's CARD OF 'decretallaw26.RepoNil'. -/
def repoNilUptoCard : Claim7 := { stood := { row := repoNilUptoRow, standIns := [], harness := (true, "fad1e96a412cac3fdded98c6da0c9dc7e48f08aca29a57e001d7cea19bda9c74"), looks := true }, kinds := [], alts := [], laidByText := true, laidKinds := [.data, .data, .data, .data, .pinned], laidTests := true, laidLooks := .later }
def RepoNilUptoCardSaid : Prop := Claim7.holds Tryz.pinned (.plain (OpenSpec.upto repoNilSpec)) repoNilUptoCard
end Rows
end Go.Proofs.YtnfendddolhcoaaGreatDoor
