/-
  DERIVED. GIVEN WITH THE SEED: THE CARDS: each row of YtmbgnaoilncbnaaGreatDoorRows.lean that lists a variable, with what it lists TIED to the program's text (the seventh form; the later family's looks); each row that meets fmt, with fmt's text TOLD by the authors' own Lean function (tested against real Go, not proved from fmt's source: count such statements apart). THE CARD IS WHAT COUNTS. Prove the row's statement (the work); the ties are given (YtmbgnaoilncbnaaGreatDoorTie.lean); close each card by the builder's one call (the guide's Derived/Test/ToyasCard.lean, 'card_holds'). Laid BY PROGRAM, IN A SANDBOX (cutbox-door.mjs). By AI agents, Wed Nov 11 2026. No macro, syntax, notation, axiom, sorry.
-/
import Derived.Test.YtmbgnaoilncbnaaGreatDoorRows
import GoSem.ClaimSeven
namespace Go.Proofs.YtmbgnaoilncbnaaGreatDoor
namespace Rows

/-- THE TIED CARD OF 'decretallaw19.TcodecBytes'. -/
def tcodecBytesCard : Claim7 := { stood := { row := tcodecBytesRow, standIns := [], harness := (true, "7fd39b441e49197c36bddc88708feb7a5eab2a27fa32c29dc58c64db58688971"), looks := false }, kinds := [], alts := [], laidByText := true, laidKinds := [.data, .data, .data], laidTests := true, laidLooks := .later }
def TcodecBytesCardSaid : Prop := Claim7.holds Tryz.pinned (.plain (OpenSpec.ofChange tcodecBytesSpec)) tcodecBytesCard

/-- THE TIED CARD OF 'decretallaw19.TcodecParses'. -/
def tcodecParsesCard : Claim7 := { stood := { row := tcodecParsesRow, standIns := [], harness := (true, "7fd39b441e49197c36bddc88708feb7a5eab2a27fa32c29dc58c64db58688971"), looks := false }, kinds := [], alts := [], laidByText := true, laidKinds := [.data, .data, .data], laidTests := true, laidLooks := .later }
def TcodecParsesCardSaid : Prop := Claim7.holds Tryz.pinned (.plain (OpenSpec.ofChange tcodecParsesSpec)) tcodecParsesCard

/-- THE TIED CARD OF 'decretallaw19.TcodecBack'. -/
def tcodecBackCard : Claim7 := { stood := { row := tcodecBackRow, standIns := [], harness := (true, "7fd39b441e49197c36bddc88708feb7a5eab2a27fa32c29dc58c64db58688971"), looks := false }, kinds := [], alts := [], laidByText := true, laidKinds := [.data, .data, .data], laidTests := true, laidLooks := .later }
def TcodecBackCardSaid : Prop := Claim7.holds Tryz.pinned (.plain (OpenSpec.ofChange tcodecBackSpec)) tcodecBackCard

/-- THE TIED CARD OF 'decretallaw19.TcodecApart'. -/
def tcodecApartCard : Claim7 := { stood := { row := tcodecApartRow, standIns := [], harness := (true, "7fd39b441e49197c36bddc88708feb7a5eab2a27fa32c29dc58c64db58688971"), looks := false }, kinds := [], alts := [], laidByText := true, laidKinds := [.data, .data, .data], laidTests := true, laidLooks := .later }
def TcodecApartCardSaid : Prop := Claim7.holds Tryz.pinned (.plain (OpenSpec.ofChange tcodecApartSpec)) tcodecApartCard

/-- THE TIED CARD OF 'decretallaw27.CommandBytes'. -/
def commandBytesCard : Claim7 := { stood := { row := commandBytesRow, standIns := [], harness := (true, "7fd39b441e49197c36bddc88708feb7a5eab2a27fa32c29dc58c64db58688971"), looks := false }, kinds := [], alts := [], laidByText := true, laidKinds := [.data, .data, .data], laidTests := true, laidLooks := .later }
def CommandBytesCardSaid : Prop := Claim7.holds Tryz.pinned (.plain (OpenSpec.ofChange commandBytesSpec)) commandBytesCard

/-- THE TIED CARD OF 'decretallaw27.CommandOne'. -/
def commandOneCard : Claim7 := { stood := { row := commandOneRow, standIns := [], harness := (true, "7fd39b441e49197c36bddc88708feb7a5eab2a27fa32c29dc58c64db58688971"), looks := false }, kinds := [], alts := [], laidByText := true, laidKinds := [.data, .data, .data], laidTests := true, laidLooks := .later }
def CommandOneCardSaid : Prop := Claim7.holds Tryz.pinned (.plain (OpenSpec.ofChange commandOneSpec)) commandOneCard

/-- THE TIED CARD OF 'decretallaw27.CommandBack'. -/
def commandBackCard : Claim7 := { stood := { row := commandBackRow, standIns := [], harness := (true, "7fd39b441e49197c36bddc88708feb7a5eab2a27fa32c29dc58c64db58688971"), looks := false }, kinds := [], alts := [], laidByText := true, laidKinds := [.data, .data, .data], laidTests := true, laidLooks := .later }
def CommandBackCardSaid : Prop := Claim7.holds Tryz.pinned (.plain (OpenSpec.ofChange commandBackSpec)) commandBackCard

/-- THE TIED CARD OF 'decretallaw27.CommandBatches'. -/
def commandBatchesCard : Claim7 := { stood := { row := commandBatchesRow, standIns := [], harness := (true, "7fd39b441e49197c36bddc88708feb7a5eab2a27fa32c29dc58c64db58688971"), looks := false }, kinds := [], alts := [], laidByText := true, laidKinds := [.data, .data, .data], laidTests := true, laidLooks := .later }
def CommandBatchesCardSaid : Prop := Claim7.holds Tryz.pinned (.plain (OpenSpec.ofChange commandBatchesSpec)) commandBatchesCard

/-- THE SECOND FORM's CARD OF 'decretallaw19.TcodecBytes'. -/
def tcodecBytesUptoCard : Claim7 := { stood := { row := tcodecBytesUptoRow, standIns := [], harness := (true, "7fd39b441e49197c36bddc88708feb7a5eab2a27fa32c29dc58c64db58688971"), looks := false }, kinds := [], alts := [], laidByText := true, laidKinds := [.data, .data, .data], laidTests := true, laidLooks := .later }
def TcodecBytesUptoCardSaid : Prop := Claim7.holds Tryz.pinned (.plain (OpenSpec.upto tcodecBytesSpec)) tcodecBytesUptoCard

/-- THE SECOND FORM's CARD OF 'decretallaw19.TcodecParses'. -/
def tcodecParsesUptoCard : Claim7 := { stood := { row := tcodecParsesUptoRow, standIns := [], harness := (true, "7fd39b441e49197c36bddc88708feb7a5eab2a27fa32c29dc58c64db58688971"), looks := false }, kinds := [], alts := [], laidByText := true, laidKinds := [.data, .data, .data], laidTests := true, laidLooks := .later }
def TcodecParsesUptoCardSaid : Prop := Claim7.holds Tryz.pinned (.plain (OpenSpec.upto tcodecParsesSpec)) tcodecParsesUptoCard

/-- THE SECOND FORM's CARD OF 'decretallaw19.TcodecBack'. -/
def tcodecBackUptoCard : Claim7 := { stood := { row := tcodecBackUptoRow, standIns := [], harness := (true, "7fd39b441e49197c36bddc88708feb7a5eab2a27fa32c29dc58c64db58688971"), looks := false }, kinds := [], alts := [], laidByText := true, laidKinds := [.data, .data, .data], laidTests := true, laidLooks := .later }
def TcodecBackUptoCardSaid : Prop := Claim7.holds Tryz.pinned (.plain (OpenSpec.upto tcodecBackSpec)) tcodecBackUptoCard

/-- THE SECOND FORM's CARD OF 'decretallaw19.TcodecApart'. -/
def tcodecApartUptoCard : Claim7 := { stood := { row := tcodecApartUptoRow, standIns := [], harness := (true, "7fd39b441e49197c36bddc88708feb7a5eab2a27fa32c29dc58c64db58688971"), looks := false }, kinds := [], alts := [], laidByText := true, laidKinds := [.data, .data, .data], laidTests := true, laidLooks := .later }
def TcodecApartUptoCardSaid : Prop := Claim7.holds Tryz.pinned (.plain (OpenSpec.upto tcodecApartSpec)) tcodecApartUptoCard

/-- THE SECOND FORM's CARD OF 'decretallaw27.CommandBytes'. -/
def commandBytesUptoCard : Claim7 := { stood := { row := commandBytesUptoRow, standIns := [], harness := (true, "7fd39b441e49197c36bddc88708feb7a5eab2a27fa32c29dc58c64db58688971"), looks := false }, kinds := [], alts := [], laidByText := true, laidKinds := [.data, .data, .data], laidTests := true, laidLooks := .later }
def CommandBytesUptoCardSaid : Prop := Claim7.holds Tryz.pinned (.plain (OpenSpec.upto commandBytesSpec)) commandBytesUptoCard

/-- THE SECOND FORM's CARD OF 'decretallaw27.CommandOne'. -/
def commandOneUptoCard : Claim7 := { stood := { row := commandOneUptoRow, standIns := [], harness := (true, "7fd39b441e49197c36bddc88708feb7a5eab2a27fa32c29dc58c64db58688971"), looks := false }, kinds := [], alts := [], laidByText := true, laidKinds := [.data, .data, .data], laidTests := true, laidLooks := .later }
def CommandOneUptoCardSaid : Prop := Claim7.holds Tryz.pinned (.plain (OpenSpec.upto commandOneSpec)) commandOneUptoCard

/-- THE SECOND FORM's CARD OF 'decretallaw27.CommandBack'. -/
def commandBackUptoCard : Claim7 := { stood := { row := commandBackUptoRow, standIns := [], harness := (true, "7fd39b441e49197c36bddc88708feb7a5eab2a27fa32c29dc58c64db58688971"), looks := false }, kinds := [], alts := [], laidByText := true, laidKinds := [.data, .data, .data], laidTests := true, laidLooks := .later }
def CommandBackUptoCardSaid : Prop := Claim7.holds Tryz.pinned (.plain (OpenSpec.upto commandBackSpec)) commandBackUptoCard

/-- THE SECOND FORM's CARD OF 'decretallaw27.CommandBatches'. -/
def commandBatchesUptoCard : Claim7 := { stood := { row := commandBatchesUptoRow, standIns := [], harness := (true, "7fd39b441e49197c36bddc88708feb7a5eab2a27fa32c29dc58c64db58688971"), looks := false }, kinds := [], alts := [], laidByText := true, laidKinds := [.data, .data, .data], laidTests := true, laidLooks := .later }
def CommandBatchesUptoCardSaid : Prop := Claim7.holds Tryz.pinned (.plain (OpenSpec.upto commandBatchesSpec)) commandBatchesUptoCard
end Rows
end Go.Proofs.YtmbgnaoilncbnaaGreatDoor
