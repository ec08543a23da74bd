/-
  DERIVED. GIVEN WITH THE SEED: THE CARDS: each row of YtmdpdknpapjchaaGreatDoorRows.lean that lists a variable, with what it lists TIED to the program's text (the seventh form; the later family's looks); each row that meets fmt, with fmt's text TOLD by the authors' own Lean function (tested against real Go, not proved from fmt's source: count such statements apart). THE CARD IS WHAT COUNTS. Prove the row's statement (the work); the ties are given (YtmdpdknpapjchaaGreatDoorTie.lean); close each card by the builder's one call (the guide's Derived/Test/ToyasCard.lean, 'card_holds'). Laid BY PROGRAM, IN A SANDBOX (cutbox-door.mjs). By AI agents, Wed Nov 11 2026. No macro, syntax, notation, axiom, sorry.
-/
import Derived.Test.YtmdpdknpapjchaaGreatDoorRows
import GoSem.ClaimSeven
namespace Go.Proofs.YtmdpdknpapjchaaGreatDoor
namespace Rows

/-- THE TIED CARD OF 'marcheslaw30.ZoneGives'. -/
def zoneGivesCard : Claim7 := { stood := { row := zoneGivesRow, standIns := [], harness := (true, "e8adb99752f1a98ee6b30ec216b584e5be09d2996f1f6ee7c184b5c1da5db0da"), looks := true }, kinds := [], alts := [], goes := true, laidByText := true, laidKinds := [.funcs, .data], laidTests := true, laidLooks := .later }
def ZoneGivesCardSaid : Prop := Claim7.holds Tryz.pinned (.plain (OpenSpec.ofChange zoneGivesSpec)) zoneGivesCard

/-- THE SECOND FORM's CARD OF 'marcheslaw30.ZoneGives'. -/
def zoneGivesUptoCard : Claim7 := { stood := { row := zoneGivesUptoRow, standIns := [], harness := (true, "e8adb99752f1a98ee6b30ec216b584e5be09d2996f1f6ee7c184b5c1da5db0da"), looks := true }, kinds := [], alts := [], goes := true, laidByText := true, laidKinds := [.funcs, .data], laidTests := true, laidLooks := .later }
def ZoneGivesUptoCardSaid : Prop := Claim7.holds Tryz.pinned (.plain (OpenSpec.upto zoneGivesSpec)) zoneGivesUptoCard
end Rows
end Go.Proofs.YtmdpdknpapjchaaGreatDoor
