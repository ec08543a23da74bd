/-
  DERIVED. GIVEN WITH THE SEED: THE PROGRAM's TIES (one call each: nine closed facts by the kernel) AND EACH ROW's TIE, after the 31st guide's Derived/Test/Toyas{Tie, Card}.lean. No idea stands in it: it is a product of the set-up. Laid BY PROGRAM, IN A SANDBOX (cutbox-door.mjs). By AI agents, Wed Nov 11 2026. No macro, syntax, notation, axiom, sorry.
-/
import Derived.Test.YtmdpdknpapjchaaGreatDoorRows
import Derived.LaidByTextLater
import Derived.SevenTiedAt
import Derived.LaidSub
import Derived.LaidOnce
namespace Go.Proofs.YtmdpdknpapjchaaGreatDoor
open Go
set_option maxRecDepth 100000
theorem seatTie1 : Tryz.prog.laidByTextLater [("marches/shape.rooms", Rows.laid_marches_shape_rooms), ("marches/store.ranges", Rows.laid_marches_store_ranges)] [.funcs, .data] true :=
  Program.laidByTextLater_by_one 111 8 89 (by kernel_rfl) (by kernel_rfl) (by kernel_rfl) (by kernel_rfl) (by kernel_rfl) (by kernel_rfl) (fun _ _ => by kernel_rfl)
theorem noOwnUnsafe : Tryz.pinned.checked.prog.headLifts.contains "ownunsafe" = false := by kernel_rfl
theorem tie : Tryz.prog.laidByTextLater [("marches/shape.rooms", Rows.laid_marches_shape_rooms), ("marches/store.ranges", Rows.laid_marches_store_ranges)] [.funcs, .data] true :=
  Program.laidByTextLater.sub seatTie1 ["marches/shape.rooms", "marches/store.ranges"] (by kernel_rfl) (by kernel_rfl)
theorem zoneGives_row_tie : Rows.zoneGivesRow.laidByTextAt .later Tryz.pinned [.funcs, .data] true :=
  OpenClaim.laidByTextAt_later rfl rfl tie noOwnUnsafe
theorem zoneGivesUpto_row_tie : Rows.zoneGivesUptoRow.laidByTextAt .later Tryz.pinned [.funcs, .data] true :=
  OpenClaim.laidByTextAt_later rfl rfl tie noOwnUnsafe
end Go.Proofs.YtmdpdknpapjchaaGreatDoor
