/-
  DERIVED. GIVEN WITH THE SEED: THE CARDS: each row of YtcojfohjdibjjaaGreatDoorRows.lean that lists a variable, with what it lists TIED to the program's text (the seventh form; the later family's looks); each row that meets fmt, with fmt's text TOLD by the authors' own Lean function (tested against real Go, not proved from fmt's source: count such statements apart). THE CARD IS WHAT COUNTS. Prove the row's statement (the work); the ties are given (YtcojfohjdibjjaaGreatDoorTie.lean); close each card by the builder's one call (the guide's Derived/Test/ToyasCard.lean, 'card_holds'). Laid BY PROGRAM, IN A SANDBOX (cutbox-door.mjs). By AI agents, Wed Nov 11 2026. No macro, syntax, notation, axiom, sorry.
-/
import Derived.Test.YtcojfohjdibjjaaGreatDoorRows
import GoSem.ClaimSeven
namespace Go.Proofs.YtcojfohjdibjjaaGreatDoor
namespace Rows

/-- THE TIED CARD OF 'marcheslaw10.CastPairs'. -/
def castPairsCard : Claim7 := { stood := { row := castPairsRow, standIns := [], harness := (true, "96a8137608ea4a2aba7e2153210481eeefdf3dc33d7eceea412bb9ca328a55dd"), looks := true }, kinds := [], alts := [], laidByText := true, laidKinds := [.data, .data, .data, .data, .data, .data, .data], laidTests := true, laidLooks := .later }
def CastPairsCardSaid : Prop := Claim7.holds Tryz.pinned (.plain (OpenSpec.ofChange castPairsSpec)) castPairsCard

/-- THE SECOND FORM's CARD OF 'marcheslaw10.CastPairs'. -/
def castPairsUptoCard : Claim7 := { stood := { row := castPairsUptoRow, standIns := [], harness := (true, "96a8137608ea4a2aba7e2153210481eeefdf3dc33d7eceea412bb9ca328a55dd"), looks := true }, kinds := [], alts := [], laidByText := true, laidKinds := [.data, .data, .data, .data, .data, .data, .data], laidTests := true, laidLooks := .later }
def CastPairsUptoCardSaid : Prop := Claim7.holds Tryz.pinned (.plain (OpenSpec.upto castPairsSpec)) castPairsUptoCard
end Rows
end Go.Proofs.YtcojfohjdibjjaaGreatDoor
