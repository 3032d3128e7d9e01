/-
  DERIVED. GIVEN WITH THE SEED: THE CARDS: each row of YtcjcnfcedihckaaGreatDoorRows.lean that lists a variable, with what it lists TIED to the program's text (the seventh form; the later family's looks); each row that meets fmt, with fmt's text TOLD by the authors' own Lean function (tested against real Go, not proved from fmt's source: count such statements apart). THE CARD IS WHAT COUNTS. Prove the row's statement (the work); the ties are given (YtcjcnfcedihckaaGreatDoorTie.lean); close each card by the builder's one call (the guide's Derived/Test/ToyasCard.lean, 'card_holds'). Laid BY PROGRAM, IN A SANDBOX (cutbox-door.mjs). By AI agents, Wed Nov 11 2026. No macro, syntax, notation, axiom, sorry.
-/
import Derived.Test.YtcjcnfcedihckaaGreatDoorRows
import GoSem.ClaimSeven
namespace Go.Proofs.YtcjcnfcedihckaaGreatDoor
namespace Rows

/-- THE TIED CARD OF 'decretallaw29.ScriptTexts'. -/
def scriptTextsCard : Claim7 := { stood := { row := scriptTextsRow, standIns := [], harness := (true, "180e4aded3dd834949180afd017526bcebc91dce440e147fe37e430a1c8c0923"), looks := true }, kinds := [], alts := [], laidByText := true, laidKinds := [.data, .data, .data, .data, .sentinel, .sentinel, .pinned], laidTests := true, laidLooks := .later }
def ScriptTextsCardSaid : Prop := Claim7.holds Tryz.pinned (.plain (OpenSpec.ofChange scriptTextsSpec)) scriptTextsCard

/-- THE TIED CARD OF 'decretallaw29.ScriptBack'. -/
def scriptBackCard : Claim7 := { stood := { row := scriptBackRow, standIns := [], harness := (true, "180e4aded3dd834949180afd017526bcebc91dce440e147fe37e430a1c8c0923"), looks := true }, kinds := [], alts := [], laidByText := true, laidKinds := [.data, .data, .data, .data, .sentinel, .sentinel, .pinned], laidTests := true, laidLooks := .later }
def ScriptBackCardSaid : Prop := Claim7.holds Tryz.pinned (.plain (OpenSpec.ofChange scriptBackSpec)) scriptBackCard

/-- THE TIED CARD OF 'decretallaw29.ScriptOnly'. -/
def scriptOnlyCard : Claim7 := { stood := { row := scriptOnlyRow, standIns := [], harness := (true, "180e4aded3dd834949180afd017526bcebc91dce440e147fe37e430a1c8c0923"), looks := true }, kinds := [], alts := [], laidByText := true, laidKinds := [.data, .data, .data, .data, .sentinel, .sentinel, .pinned], laidTests := true, laidLooks := .later }
def ScriptOnlyCardSaid : Prop := Claim7.holds Tryz.pinned (.plain (OpenSpec.ofChange scriptOnlySpec)) scriptOnlyCard

/-- THE TIED CARD OF 'decretallaw29.ScriptFails'. -/
def scriptFailsCard : Claim7 := { stood := { row := scriptFailsRow, standIns := [], harness := (true, "180e4aded3dd834949180afd017526bcebc91dce440e147fe37e430a1c8c0923"), looks := true }, kinds := [], alts := [], laidByText := true, laidKinds := [.data, .data, .data, .data, .sentinel, .sentinel, .pinned], laidTests := true, laidLooks := .later }
def ScriptFailsCardSaid : Prop := Claim7.holds Tryz.pinned (.plain (OpenSpec.ofChange scriptFailsSpec)) scriptFailsCard

/-- THE SECOND FORM's CARD OF 'decretallaw29.ScriptTexts'. -/
def scriptTextsUptoCard : Claim7 := { stood := { row := scriptTextsUptoRow, standIns := [], harness := (true, "180e4aded3dd834949180afd017526bcebc91dce440e147fe37e430a1c8c0923"), looks := true }, kinds := [], alts := [], laidByText := true, laidKinds := [.data, .data, .data, .data, .sentinel, .sentinel, .pinned], laidTests := true, laidLooks := .later }
def ScriptTextsUptoCardSaid : Prop := Claim7.holds Tryz.pinned (.plain (OpenSpec.upto scriptTextsSpec)) scriptTextsUptoCard

/-- THE SECOND FORM's CARD OF 'decretallaw29.ScriptBack'. -/
def scriptBackUptoCard : Claim7 := { stood := { row := scriptBackUptoRow, standIns := [], harness := (true, "180e4aded3dd834949180afd017526bcebc91dce440e147fe37e430a1c8c0923"), looks := true }, kinds := [], alts := [], laidByText := true, laidKinds := [.data, .data, .data, .data, .sentinel, .sentinel, .pinned], laidTests := true, laidLooks := .later }
def ScriptBackUptoCardSaid : Prop := Claim7.holds Tryz.pinned (.plain (OpenSpec.upto scriptBackSpec)) scriptBackUptoCard

/-- THE SECOND FORM's CARD OF 'decretallaw29.ScriptOnly'. -/
def scriptOnlyUptoCard : Claim7 := { stood := { row := scriptOnlyUptoRow, standIns := [], harness := (true, "180e4aded3dd834949180afd017526bcebc91dce440e147fe37e430a1c8c0923"), looks := true }, kinds := [], alts := [], laidByText := true, laidKinds := [.data, .data, .data, .data, .sentinel, .sentinel, .pinned], laidTests := true, laidLooks := .later }
def ScriptOnlyUptoCardSaid : Prop := Claim7.holds Tryz.pinned (.plain (OpenSpec.upto scriptOnlySpec)) scriptOnlyUptoCard

/-- THE SECOND FORM's CARD OF 'decretallaw29.ScriptFails'. -/
def scriptFailsUptoCard : Claim7 := { stood := { row := scriptFailsUptoRow, standIns := [], harness := (true, "180e4aded3dd834949180afd017526bcebc91dce440e147fe37e430a1c8c0923"), looks := true }, kinds := [], alts := [], laidByText := true, laidKinds := [.data, .data, .data, .data, .sentinel, .sentinel, .pinned], laidTests := true, laidLooks := .later }
def ScriptFailsUptoCardSaid : Prop := Claim7.holds Tryz.pinned (.plain (OpenSpec.upto scriptFailsSpec)) scriptFailsUptoCard
end Rows
end Go.Proofs.YtcjcnfcedihckaaGreatDoor
