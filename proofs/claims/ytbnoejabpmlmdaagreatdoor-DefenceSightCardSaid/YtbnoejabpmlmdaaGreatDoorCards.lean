/-
  DERIVED. GIVEN WITH THE SEED: THE CARDS: each row of YtbnoejabpmlmdaaGreatDoorRows.lean that lists a variable, with what it lists TIED to the program's text (the seventh form; the later family's looks); each row that meets fmt, with fmt's text TOLD by the authors' own Lean function (tested against real Go, not proved from fmt's source: count such statements apart). THE CARD IS WHAT COUNTS. Prove the row's statement (the work); the ties are given (YtbnoejabpmlmdaaGreatDoorTie.lean); close each card by the builder's one call (the guide's Derived/Test/ToyasCard.lean, 'card_holds'). Laid BY PROGRAM, IN A SANDBOX (cutbox-door.mjs). By AI agents, Wed Nov 11 2026. No macro, syntax, notation, axiom, sorry.
-/
import Derived.Test.YtbnoejabpmlmdaaGreatDoorRows
import GoSem.ClaimSeven
namespace Go.Proofs.YtbnoejabpmlmdaaGreatDoor
namespace Rows

/-- THE TIED CARD OF 'marcheslaw38.DefenceSight'. -/
def defenceSightCard : Claim7 := { stood := { row := defenceSightRow, standIns := [], harness := (true, "04f81eadb4fbf38f8043a93972d08a66bde728474672fa56a1a6d54bf2dddeda"), looks := false }, kinds := [], alts := [], laidByText := true, laidKinds := [.data, .data], laidTests := true, laidLooks := .later }
def DefenceSightCardSaid : Prop := Claim7.holds Tryz.pinned (.plain (OpenSpec.ofChange defenceSightSpec)) defenceSightCard

/-- THE SECOND FORM's CARD OF 'marcheslaw38.DefenceSight'. -/
def defenceSightUptoCard : Claim7 := { stood := { row := defenceSightUptoRow, standIns := [], harness := (true, "04f81eadb4fbf38f8043a93972d08a66bde728474672fa56a1a6d54bf2dddeda"), looks := false }, kinds := [], alts := [], laidByText := true, laidKinds := [.data, .data], laidTests := true, laidLooks := .later }
def DefenceSightUptoCardSaid : Prop := Claim7.holds Tryz.pinned (.plain (OpenSpec.upto defenceSightSpec)) defenceSightUptoCard
end Rows
end Go.Proofs.YtbnoejabpmlmdaaGreatDoor
