/-
  DERIVED. GIVEN WITH THE SEED: THE CARDS: each row of YtjdohgcolhpegaaGreatDoorRows.lean that lists a variable, with what it lists TIED to the program's text (the seventh form; the later family's looks); each row that meets fmt, with fmt's text TOLD by the authors' own Lean function (tested against real Go, not proved from fmt's source: count such statements apart). THE CARD IS WHAT COUNTS. Prove the row's statement (the work); the ties are given (YtjdohgcolhpegaaGreatDoorTie.lean); close each card by the builder's one call (the guide's Derived/Test/ToyasCard.lean, 'card_holds'). Laid BY PROGRAM, IN A SANDBOX (cutbox-door.mjs). By AI agents, Wed Nov 11 2026. No macro, syntax, notation, axiom, sorry.
-/
import Derived.Test.YtjdohgcolhpegaaGreatDoorRows
import GoSem.ClaimSeven
namespace Go.Proofs.YtjdohgcolhpegaaGreatDoor
namespace Rows

/-- THE TIED CARD OF 'marcheslaw29.RewindShown'. -/
def rewindShownCard : Claim7 := { stood := { row := rewindShownRow, standIns := [], harness := (true, "32a37a938c302284a1549fddaeae621eb58dc66eebd1bbe65b272d4f63e0d8d3"), looks := false }, kinds := [], alts := [], laidByText := true, laidKinds := [.data], laidTests := true, laidLooks := .later }
def RewindShownCardSaid : Prop := Claim7.holds Tryz.pinned (.plain (OpenSpec.ofChange rewindShownSpec)) rewindShownCard

/-- THE TIED CARD OF 'marcheslaw29.RewindHurts'. -/
def rewindHurtsCard : Claim7 := { stood := { row := rewindHurtsRow, standIns := [], harness := (true, "32a37a938c302284a1549fddaeae621eb58dc66eebd1bbe65b272d4f63e0d8d3"), looks := false }, kinds := [], alts := [], laidByText := true, laidKinds := [.data], laidTests := true, laidLooks := .later }
def RewindHurtsCardSaid : Prop := Claim7.holds Tryz.pinned (.plain (OpenSpec.ofChange rewindHurtsSpec)) rewindHurtsCard

/-- THE TIED CARD OF 'marcheslaw29.RewindFirst'. -/
def rewindFirstCard : Claim7 := { stood := { row := rewindFirstRow, standIns := [], harness := (true, "32a37a938c302284a1549fddaeae621eb58dc66eebd1bbe65b272d4f63e0d8d3"), looks := false }, kinds := [], alts := [], laidByText := true, laidKinds := [.data], laidTests := true, laidLooks := .later }
def RewindFirstCardSaid : Prop := Claim7.holds Tryz.pinned (.plain (OpenSpec.ofChange rewindFirstSpec)) rewindFirstCard

/-- THE TIED CARD OF 'marcheslaw29.RewindKeeps'. -/
def rewindKeepsCard : Claim7 := { stood := { row := rewindKeepsRow, standIns := [], harness := (true, "32a37a938c302284a1549fddaeae621eb58dc66eebd1bbe65b272d4f63e0d8d3"), looks := false }, kinds := [], alts := [], laidByText := true, laidKinds := [.data], laidTests := true, laidLooks := .later }
def RewindKeepsCardSaid : Prop := Claim7.holds Tryz.pinned (.plain (OpenSpec.ofChange rewindKeepsSpec)) rewindKeepsCard

/-- THE TIED CARD OF 'marcheslaw29.RewindWrong'. -/
def rewindWrongCard : Claim7 := { stood := { row := rewindWrongRow, standIns := [], harness := (true, "32a37a938c302284a1549fddaeae621eb58dc66eebd1bbe65b272d4f63e0d8d3"), looks := false }, kinds := [], alts := [], laidByText := true, laidKinds := [.data], laidTests := true, laidLooks := .later }
def RewindWrongCardSaid : Prop := Claim7.holds Tryz.pinned (.plain (OpenSpec.ofChange rewindWrongSpec)) rewindWrongCard

/-- THE TIED CARD OF 'marcheslaw29.RewindIgnores'. -/
def rewindIgnoresCard : Claim7 := { stood := { row := rewindIgnoresRow, standIns := [], harness := (true, "32a37a938c302284a1549fddaeae621eb58dc66eebd1bbe65b272d4f63e0d8d3"), looks := false }, kinds := [], alts := [], laidByText := true, laidKinds := [.data], laidTests := true, laidLooks := .later }
def RewindIgnoresCardSaid : Prop := Claim7.holds Tryz.pinned (.plain (OpenSpec.ofChange rewindIgnoresSpec)) rewindIgnoresCard

/-- THE SECOND FORM's CARD OF 'marcheslaw29.RewindShown'. -/
def rewindShownUptoCard : Claim7 := { stood := { row := rewindShownUptoRow, standIns := [], harness := (true, "32a37a938c302284a1549fddaeae621eb58dc66eebd1bbe65b272d4f63e0d8d3"), looks := false }, kinds := [], alts := [], laidByText := true, laidKinds := [.data], laidTests := true, laidLooks := .later }
def RewindShownUptoCardSaid : Prop := Claim7.holds Tryz.pinned (.plain (OpenSpec.upto rewindShownSpec)) rewindShownUptoCard

/-- THE SECOND FORM's CARD OF 'marcheslaw29.RewindHurts'. -/
def rewindHurtsUptoCard : Claim7 := { stood := { row := rewindHurtsUptoRow, standIns := [], harness := (true, "32a37a938c302284a1549fddaeae621eb58dc66eebd1bbe65b272d4f63e0d8d3"), looks := false }, kinds := [], alts := [], laidByText := true, laidKinds := [.data], laidTests := true, laidLooks := .later }
def RewindHurtsUptoCardSaid : Prop := Claim7.holds Tryz.pinned (.plain (OpenSpec.upto rewindHurtsSpec)) rewindHurtsUptoCard

/-- THE SECOND FORM's CARD OF 'marcheslaw29.RewindFirst'. -/
def rewindFirstUptoCard : Claim7 := { stood := { row := rewindFirstUptoRow, standIns := [], harness := (true, "32a37a938c302284a1549fddaeae621eb58dc66eebd1bbe65b272d4f63e0d8d3"), looks := false }, kinds := [], alts := [], laidByText := true, laidKinds := [.data], laidTests := true, laidLooks := .later }
def RewindFirstUptoCardSaid : Prop := Claim7.holds Tryz.pinned (.plain (OpenSpec.upto rewindFirstSpec)) rewindFirstUptoCard

/-- THE SECOND FORM's CARD OF 'marcheslaw29.RewindKeeps'. -/
def rewindKeepsUptoCard : Claim7 := { stood := { row := rewindKeepsUptoRow, standIns := [], harness := (true, "32a37a938c302284a1549fddaeae621eb58dc66eebd1bbe65b272d4f63e0d8d3"), looks := false }, kinds := [], alts := [], laidByText := true, laidKinds := [.data], laidTests := true, laidLooks := .later }
def RewindKeepsUptoCardSaid : Prop := Claim7.holds Tryz.pinned (.plain (OpenSpec.upto rewindKeepsSpec)) rewindKeepsUptoCard

/-- THE SECOND FORM's CARD OF 'marcheslaw29.RewindWrong'. -/
def rewindWrongUptoCard : Claim7 := { stood := { row := rewindWrongUptoRow, standIns := [], harness := (true, "32a37a938c302284a1549fddaeae621eb58dc66eebd1bbe65b272d4f63e0d8d3"), looks := false }, kinds := [], alts := [], laidByText := true, laidKinds := [.data], laidTests := true, laidLooks := .later }
def RewindWrongUptoCardSaid : Prop := Claim7.holds Tryz.pinned (.plain (OpenSpec.upto rewindWrongSpec)) rewindWrongUptoCard

/-- THE SECOND FORM's CARD OF 'marcheslaw29.RewindIgnores'. -/
def rewindIgnoresUptoCard : Claim7 := { stood := { row := rewindIgnoresUptoRow, standIns := [], harness := (true, "32a37a938c302284a1549fddaeae621eb58dc66eebd1bbe65b272d4f63e0d8d3"), looks := false }, kinds := [], alts := [], laidByText := true, laidKinds := [.data], laidTests := true, laidLooks := .later }
def RewindIgnoresUptoCardSaid : Prop := Claim7.holds Tryz.pinned (.plain (OpenSpec.upto rewindIgnoresSpec)) rewindIgnoresUptoCard
end Rows
end Go.Proofs.YtjdohgcolhpegaaGreatDoor
