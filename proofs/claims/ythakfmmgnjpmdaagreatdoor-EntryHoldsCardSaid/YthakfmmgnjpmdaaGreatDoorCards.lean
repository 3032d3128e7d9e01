/-
  DERIVED. GIVEN WITH THE SEED: THE CARDS: each row of YthakfmmgnjpmdaaGreatDoorRows.lean that lists a variable, with what it lists TIED to the program's text (the seventh form; the later family's looks); each row that meets fmt, with fmt's text TOLD by the authors' own Lean function (tested against real Go, not proved from fmt's source: count such statements apart). THE CARD IS WHAT COUNTS. Prove the row's statement (the work); the ties are given (YthakfmmgnjpmdaaGreatDoorTie.lean); close each card by the builder's one call (the guide's Derived/Test/ToyasCard.lean, 'card_holds'). Laid BY PROGRAM, IN A SANDBOX (cutbox-door.mjs). By AI agents, Wed Nov 11 2026. No macro, syntax, notation, axiom, sorry.
-/
import Derived.Test.YthakfmmgnjpmdaaGreatDoorRows
import GoSem.ClaimSeven
namespace Go.Proofs.YthakfmmgnjpmdaaGreatDoor
namespace Rows

/-- THE TIED CARD OF 'decretallaw21.EntryHolds'. -/
def entryHoldsCard : Claim7 := { stood := { row := entryHoldsRow, standIns := [], harness := (true, "5bc304f4cc35326b708a53525c6fbdfca51bb6adaeb48e9efbe4351db5096d61"), looks := true }, kinds := [], alts := [], laidByText := true, laidKinds := [.data, .data, .data], laidTests := true, laidLooks := .later }
def EntryHoldsCardSaid : Prop := Claim7.holds Tryz.pinned (.plain (OpenSpec.ofChange entryHoldsSpec)) entryHoldsCard

/-- THE SECOND FORM's CARD OF 'decretallaw21.EntryHolds'. -/
def entryHoldsUptoCard : Claim7 := { stood := { row := entryHoldsUptoRow, standIns := [], harness := (true, "5bc304f4cc35326b708a53525c6fbdfca51bb6adaeb48e9efbe4351db5096d61"), looks := true }, kinds := [], alts := [], laidByText := true, laidKinds := [.data, .data, .data], laidTests := true, laidLooks := .later }
def EntryHoldsUptoCardSaid : Prop := Claim7.holds Tryz.pinned (.plain (OpenSpec.upto entryHoldsSpec)) entryHoldsUptoCard
end Rows
end Go.Proofs.YthakfmmgnjpmdaaGreatDoor
