/-
  DERIVED. GIVEN WITH THE SEED: THE CARDS: each row of YthkhdedadacakaaGreatDoorRows.lean that lists a variable, with what it lists TIED to the program's text (the seventh form; the later family's looks); each row that meets fmt, with fmt's text TOLD by the authors' own Lean function (tested against real Go, not proved from fmt's source: count such statements apart). THE CARD IS WHAT COUNTS. Prove the row's statement (the work); the ties are given (YthkhdedadacakaaGreatDoorTie.lean); close each card by the builder's one call (the guide's Derived/Test/ToyasCard.lean, 'card_holds'). Laid BY PROGRAM, IN A SANDBOX (cutbox-door.mjs). By AI agents, Wed Nov 11 2026. No macro, syntax, notation, axiom, sorry.
-/
import Derived.Test.YthkhdedadacakaaGreatDoorRows
import GoSem.ClaimSeven
namespace Go.Proofs.YthkhdedadacakaaGreatDoor
namespace Rows

/-- THE TIED CARD OF 'decretallaw18.DtableMakes'. -/
def dtableMakesCard : Claim7 := { stood := { row := dtableMakesRow, standIns := [], harness := (true, "8858e72d443b1405d0176d42c1e4aefa8f57ca076e265e04b8a7bd7b36f733d3"), looks := false }, kinds := [], alts := [], laidByText := true, laidKinds := [.data, .data, .data], laidTests := true, laidLooks := .later }
def DtableMakesCardSaid : Prop := Claim7.holds Tryz.pinned (.plain (OpenSpec.ofChange dtableMakesSpec)) dtableMakesCard

/-- THE TIED CARD OF 'decretallaw18.DtableCleans'. -/
def dtableCleansCard : Claim7 := { stood := { row := dtableCleansRow, standIns := [], harness := (true, "8858e72d443b1405d0176d42c1e4aefa8f57ca076e265e04b8a7bd7b36f733d3"), looks := false }, kinds := [], alts := [], laidByText := true, laidKinds := [.data, .data, .data], laidTests := true, laidLooks := .later }
def DtableCleansCardSaid : Prop := Claim7.holds Tryz.pinned (.plain (OpenSpec.ofChange dtableCleansSpec)) dtableCleansCard

/-- THE TIED CARD OF 'decretallaw18.DtableClean'. -/
def dtableCleanCard : Claim7 := { stood := { row := dtableCleanRow, standIns := [], harness := (true, "8858e72d443b1405d0176d42c1e4aefa8f57ca076e265e04b8a7bd7b36f733d3"), looks := false }, kinds := [], alts := [], laidByText := true, laidKinds := [.data, .data, .data], laidTests := true, laidLooks := .later }
def DtableCleanCardSaid : Prop := Claim7.holds Tryz.pinned (.plain (OpenSpec.ofChange dtableCleanSpec)) dtableCleanCard

/-- THE TIED CARD OF 'decretallaw18.DtableRule'. -/
def dtableRuleCard : Claim7 := { stood := { row := dtableRuleRow, standIns := [], harness := (true, "8858e72d443b1405d0176d42c1e4aefa8f57ca076e265e04b8a7bd7b36f733d3"), looks := false }, kinds := [], alts := [], laidByText := true, laidKinds := [.data, .data, .data], laidTests := true, laidLooks := .later }
def DtableRuleCardSaid : Prop := Claim7.holds Tryz.pinned (.plain (OpenSpec.ofChange dtableRuleSpec)) dtableRuleCard

/-- THE TIED CARD OF 'decretallaw18.DtableSame'. -/
def dtableSameCard : Claim7 := { stood := { row := dtableSameRow, standIns := [], harness := (true, "8858e72d443b1405d0176d42c1e4aefa8f57ca076e265e04b8a7bd7b36f733d3"), looks := false }, kinds := [], alts := [], laidByText := true, laidKinds := [.data, .data, .data], laidTests := true, laidLooks := .later }
def DtableSameCardSaid : Prop := Claim7.holds Tryz.pinned (.plain (OpenSpec.ofChange dtableSameSpec)) dtableSameCard

/-- THE SECOND FORM's CARD OF 'decretallaw18.DtableMakes'. -/
def dtableMakesUptoCard : Claim7 := { stood := { row := dtableMakesUptoRow, standIns := [], harness := (true, "8858e72d443b1405d0176d42c1e4aefa8f57ca076e265e04b8a7bd7b36f733d3"), looks := false }, kinds := [], alts := [], laidByText := true, laidKinds := [.data, .data, .data], laidTests := true, laidLooks := .later }
def DtableMakesUptoCardSaid : Prop := Claim7.holds Tryz.pinned (.plain (OpenSpec.upto dtableMakesSpec)) dtableMakesUptoCard

/-- THE SECOND FORM's CARD OF 'decretallaw18.DtableCleans'. -/
def dtableCleansUptoCard : Claim7 := { stood := { row := dtableCleansUptoRow, standIns := [], harness := (true, "8858e72d443b1405d0176d42c1e4aefa8f57ca076e265e04b8a7bd7b36f733d3"), looks := false }, kinds := [], alts := [], laidByText := true, laidKinds := [.data, .data, .data], laidTests := true, laidLooks := .later }
def DtableCleansUptoCardSaid : Prop := Claim7.holds Tryz.pinned (.plain (OpenSpec.upto dtableCleansSpec)) dtableCleansUptoCard

/-- THE SECOND FORM's CARD OF 'decretallaw18.DtableClean'. -/
def dtableCleanUptoCard : Claim7 := { stood := { row := dtableCleanUptoRow, standIns := [], harness := (true, "8858e72d443b1405d0176d42c1e4aefa8f57ca076e265e04b8a7bd7b36f733d3"), looks := false }, kinds := [], alts := [], laidByText := true, laidKinds := [.data, .data, .data], laidTests := true, laidLooks := .later }
def DtableCleanUptoCardSaid : Prop := Claim7.holds Tryz.pinned (.plain (OpenSpec.upto dtableCleanSpec)) dtableCleanUptoCard

/-- THE SECOND FORM's CARD OF 'decretallaw18.DtableRule'. -/
def dtableRuleUptoCard : Claim7 := { stood := { row := dtableRuleUptoRow, standIns := [], harness := (true, "8858e72d443b1405d0176d42c1e4aefa8f57ca076e265e04b8a7bd7b36f733d3"), looks := false }, kinds := [], alts := [], laidByText := true, laidKinds := [.data, .data, .data], laidTests := true, laidLooks := .later }
def DtableRuleUptoCardSaid : Prop := Claim7.holds Tryz.pinned (.plain (OpenSpec.upto dtableRuleSpec)) dtableRuleUptoCard

/-- THE SECOND FORM's CARD OF 'decretallaw18.DtableSame'. -/
def dtableSameUptoCard : Claim7 := { stood := { row := dtableSameUptoRow, standIns := [], harness := (true, "8858e72d443b1405d0176d42c1e4aefa8f57ca076e265e04b8a7bd7b36f733d3"), looks := false }, kinds := [], alts := [], laidByText := true, laidKinds := [.data, .data, .data], laidTests := true, laidLooks := .later }
def DtableSameUptoCardSaid : Prop := Claim7.holds Tryz.pinned (.plain (OpenSpec.upto dtableSameSpec)) dtableSameUptoCard
end Rows
end Go.Proofs.YthkhdedadacakaaGreatDoor
