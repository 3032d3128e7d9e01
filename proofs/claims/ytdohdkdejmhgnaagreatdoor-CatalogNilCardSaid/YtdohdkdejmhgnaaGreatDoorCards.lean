/-
  DERIVED. GIVEN WITH THE SEED: THE CARDS: each row of YtdohdkdejmhgnaaGreatDoorRows.lean that lists a variable, with what it lists TIED to the program's text (the seventh form; the later family's looks); each row that meets fmt, with fmt's text TOLD by the authors' own Lean function (tested against real Go, not proved from fmt's source: count such statements apart). THE CARD IS WHAT COUNTS. Prove the row's statement (the work); the ties are given (YtdohdkdejmhgnaaGreatDoorTie.lean); close each card by the builder's one call (the guide's Derived/Test/ToyasCard.lean, 'card_holds'). Laid BY PROGRAM, IN A SANDBOX (cutbox-door.mjs). By AI agents, Wed Nov 11 2026. No macro, syntax, notation, axiom, sorry.
-/
import Derived.Test.YtdohdkdejmhgnaaGreatDoorRows
import GoSem.ClaimSeven
namespace Go.Proofs.YtdohdkdejmhgnaaGreatDoor
namespace Rows

/-- THE TIED CARD OF 'decretallaw24.JournalNil'. -/
def journalNilCard : Claim7 := { stood := { row := journalNilRow, standIns := [], harness := (true, "76c04b6cf0bb51fe25ee91794cbeed9c3a0476353e9c7917dd31770be04f3e5b"), looks := true }, kinds := [], alts := [], laidByText := true, laidKinds := [.data, .pinned], laidTests := true, laidLooks := .later }
def JournalNilCardSaid : Prop := Claim7.holds Tryz.pinned (.plain (OpenSpec.ofChange journalNilSpec)) journalNilCard

/-- THE TIED CARD OF 'decretallaw23.CatalogNil'. -/
def catalogNilCard : Claim7 := { stood := { row := catalogNilRow, standIns := [], harness := (true, "76c04b6cf0bb51fe25ee91794cbeed9c3a0476353e9c7917dd31770be04f3e5b"), looks := true }, kinds := [], alts := [], laidByText := true, laidKinds := [.data, .data, .data, .data, .pinned], laidTests := true, laidLooks := .later }
def CatalogNilCardSaid : Prop := Claim7.holds Tryz.pinned (.plain (OpenSpec.ofChange catalogNilSpec)) catalogNilCard

/-- THE SECOND FORM's CARD OF 'decretallaw24.JournalNil'. -/
def journalNilUptoCard : Claim7 := { stood := { row := journalNilUptoRow, standIns := [], harness := (true, "76c04b6cf0bb51fe25ee91794cbeed9c3a0476353e9c7917dd31770be04f3e5b"), looks := true }, kinds := [], alts := [], laidByText := true, laidKinds := [.data, .pinned], laidTests := true, laidLooks := .later }
def JournalNilUptoCardSaid : Prop := Claim7.holds Tryz.pinned (.plain (OpenSpec.upto journalNilSpec)) journalNilUptoCard

/-- THE SECOND FORM's CARD OF 'decretallaw23.CatalogNil'. -/
def catalogNilUptoCard : Claim7 := { stood := { row := catalogNilUptoRow, standIns := [], harness := (true, "76c04b6cf0bb51fe25ee91794cbeed9c3a0476353e9c7917dd31770be04f3e5b"), looks := true }, kinds := [], alts := [], laidByText := true, laidKinds := [.data, .data, .data, .data, .pinned], laidTests := true, laidLooks := .later }
def CatalogNilUptoCardSaid : Prop := Claim7.holds Tryz.pinned (.plain (OpenSpec.upto catalogNilSpec)) catalogNilUptoCard
end Rows
end Go.Proofs.YtdohdkdejmhgnaaGreatDoor
