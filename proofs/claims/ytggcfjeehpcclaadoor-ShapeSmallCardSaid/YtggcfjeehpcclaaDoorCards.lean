/-
  DERIVED. GIVEN WITH THE SEED: THE CARDS: each row of YtggcfjeehpcclaaDoorRows.lean that lists a variable, with what it lists TIED to the program's text (the seventh form; the later family's looks); each row that meets fmt, with fmt's text TOLD by the authors' own Lean function (tested against real Go, not proved from fmt's source: count such statements apart). THE CARD IS WHAT COUNTS. Prove the row's statement (the work); the ties are given (YtggcfjeehpcclaaDoorTie.lean); close each card by the builder's one call (the guide's Derived/Test/ToyasCard.lean, 'card_holds'). Laid BY PROGRAM, IN A SANDBOX (cutbox-door.mjs). By AI agents, Wed Nov 11 2026. No macro, syntax, notation, axiom, sorry.
-/
import Derived.Test.YtggcfjeehpcclaaDoorRows
import GoSem.ClaimSeven
namespace Go.Proofs.YtggcfjeehpcclaaDoor
namespace Rows

/-- THE TIED CARD OF 'marcheslaw05.ShapeMeets'. -/
def shapeMeetsCard : Claim7 := { stood := { row := shapeMeetsRow, standIns := [], harness := (true, "52fdc8f07acd3ba0ce6e1abfa26494d7ffed8dfddb12cc9de8c06834ee21ab88"), looks := false }, kinds := [], alts := [], laidByText := true, laidKinds := [.funcs], laidTests := true, laidLooks := .later }
def ShapeMeetsCardSaid : Prop := Claim7.holds Tryd.pinned (.plain (OpenSpec.ofChange shapeMeetsSpec)) shapeMeetsCard

/-- THE TIED CARD OF 'marcheslaw05.ShapeHas'. -/
def shapeHasCard : Claim7 := { stood := { row := shapeHasRow, standIns := [], harness := (true, "52fdc8f07acd3ba0ce6e1abfa26494d7ffed8dfddb12cc9de8c06834ee21ab88"), looks := false }, kinds := [], alts := [], laidByText := true, laidKinds := [.funcs], laidTests := true, laidLooks := .later }
def ShapeHasCardSaid : Prop := Claim7.holds Tryd.pinned (.plain (OpenSpec.ofChange shapeHasSpec)) shapeHasCard

/-- THE TIED CARD OF 'marcheslaw05.ShapeSmall'. -/
def shapeSmallCard : Claim7 := { stood := { row := shapeSmallRow, standIns := [], harness := (true, "52fdc8f07acd3ba0ce6e1abfa26494d7ffed8dfddb12cc9de8c06834ee21ab88"), looks := false }, kinds := [], alts := [], laidByText := true, laidKinds := [.funcs], laidTests := true, laidLooks := .later }
def ShapeSmallCardSaid : Prop := Claim7.holds Tryd.pinned (.plain (OpenSpec.ofChange shapeSmallSpec)) shapeSmallCard

/-- THE TIED CARD OF 'marcheslaw05.ShapeRuns'. -/
def shapeRunsCard : Claim7 := { stood := { row := shapeRunsRow, standIns := [], harness := (true, "52fdc8f07acd3ba0ce6e1abfa26494d7ffed8dfddb12cc9de8c06834ee21ab88"), looks := false }, kinds := [], alts := [], laidByText := true, laidKinds := [.funcs], laidTests := true, laidLooks := .later }
def ShapeRunsCardSaid : Prop := Claim7.holds Tryd.pinned (.plain (OpenSpec.ofChange shapeRunsSpec)) shapeRunsCard

/-- THE TIED CARD OF 'marcheslaw05.ShapeSame'. -/
def shapeSameCard : Claim7 := { stood := { row := shapeSameRow, standIns := [], harness := (true, "52fdc8f07acd3ba0ce6e1abfa26494d7ffed8dfddb12cc9de8c06834ee21ab88"), looks := false }, kinds := [], alts := [], laidByText := true, laidKinds := [.funcs], laidTests := true, laidLooks := .later }
def ShapeSameCardSaid : Prop := Claim7.holds Tryd.pinned (.plain (OpenSpec.ofChange shapeSameSpec)) shapeSameCard

/-- THE TIED CARD OF 'marcheslaw05.ShapeGrows'. -/
def shapeGrowsCard : Claim7 := { stood := { row := shapeGrowsRow, standIns := [], harness := (true, "52fdc8f07acd3ba0ce6e1abfa26494d7ffed8dfddb12cc9de8c06834ee21ab88"), looks := false }, kinds := [], alts := [], laidByText := true, laidKinds := [.funcs], laidTests := true, laidLooks := .later }
def ShapeGrowsCardSaid : Prop := Claim7.holds Tryd.pinned (.plain (OpenSpec.ofChange shapeGrowsSpec)) shapeGrowsCard

/-- THE TIED CARD OF 'marcheslaw05.ShapePoints'. -/
def shapePointsCard : Claim7 := { stood := { row := shapePointsRow, standIns := [], harness := (true, "52fdc8f07acd3ba0ce6e1abfa26494d7ffed8dfddb12cc9de8c06834ee21ab88"), looks := false }, kinds := [], alts := [], laidByText := true, laidKinds := [.funcs], laidTests := true, laidLooks := .later }
def ShapePointsCardSaid : Prop := Claim7.holds Tryd.pinned (.plain (OpenSpec.ofChange shapePointsSpec)) shapePointsCard

/-- THE TIED CARD OF 'marcheslaw05.ShapeBounds'. -/
def shapeBoundsCard : Claim7 := { stood := { row := shapeBoundsRow, standIns := [], harness := (true, "52fdc8f07acd3ba0ce6e1abfa26494d7ffed8dfddb12cc9de8c06834ee21ab88"), looks := false }, kinds := [], alts := [], laidByText := true, laidKinds := [.funcs], laidTests := true, laidLooks := .later }
def ShapeBoundsCardSaid : Prop := Claim7.holds Tryd.pinned (.plain (OpenSpec.ofChange shapeBoundsSpec)) shapeBoundsCard

/-- THE TIED CARD OF 'marcheslaw05.ShapeWrong'. -/
def shapeWrongCard : Claim7 := { stood := { row := shapeWrongRow, standIns := [], harness := (true, "52fdc8f07acd3ba0ce6e1abfa26494d7ffed8dfddb12cc9de8c06834ee21ab88"), looks := false }, kinds := [], alts := [], laidByText := true, laidKinds := [.funcs], laidTests := true, laidLooks := .later }
def ShapeWrongCardSaid : Prop := Claim7.holds Tryd.pinned (.plain (OpenSpec.ofChange shapeWrongSpec)) shapeWrongCard

/-- THE SECOND FORM's CARD OF 'marcheslaw05.ShapeMeets'. -/
def shapeMeetsUptoCard : Claim7 := { stood := { row := shapeMeetsUptoRow, standIns := [], harness := (true, "52fdc8f07acd3ba0ce6e1abfa26494d7ffed8dfddb12cc9de8c06834ee21ab88"), looks := false }, kinds := [], alts := [], laidByText := true, laidKinds := [.funcs], laidTests := true, laidLooks := .later }
def ShapeMeetsUptoCardSaid : Prop := Claim7.holds Tryd.pinned (.plain (OpenSpec.upto shapeMeetsSpec)) shapeMeetsUptoCard

/-- THE SECOND FORM's CARD OF 'marcheslaw05.ShapeHas'. -/
def shapeHasUptoCard : Claim7 := { stood := { row := shapeHasUptoRow, standIns := [], harness := (true, "52fdc8f07acd3ba0ce6e1abfa26494d7ffed8dfddb12cc9de8c06834ee21ab88"), looks := false }, kinds := [], alts := [], laidByText := true, laidKinds := [.funcs], laidTests := true, laidLooks := .later }
def ShapeHasUptoCardSaid : Prop := Claim7.holds Tryd.pinned (.plain (OpenSpec.upto shapeHasSpec)) shapeHasUptoCard

/-- THE SECOND FORM's CARD OF 'marcheslaw05.ShapeSmall'. -/
def shapeSmallUptoCard : Claim7 := { stood := { row := shapeSmallUptoRow, standIns := [], harness := (true, "52fdc8f07acd3ba0ce6e1abfa26494d7ffed8dfddb12cc9de8c06834ee21ab88"), looks := false }, kinds := [], alts := [], laidByText := true, laidKinds := [.funcs], laidTests := true, laidLooks := .later }
def ShapeSmallUptoCardSaid : Prop := Claim7.holds Tryd.pinned (.plain (OpenSpec.upto shapeSmallSpec)) shapeSmallUptoCard

/-- THE SECOND FORM's CARD OF 'marcheslaw05.ShapeRuns'. -/
def shapeRunsUptoCard : Claim7 := { stood := { row := shapeRunsUptoRow, standIns := [], harness := (true, "52fdc8f07acd3ba0ce6e1abfa26494d7ffed8dfddb12cc9de8c06834ee21ab88"), looks := false }, kinds := [], alts := [], laidByText := true, laidKinds := [.funcs], laidTests := true, laidLooks := .later }
def ShapeRunsUptoCardSaid : Prop := Claim7.holds Tryd.pinned (.plain (OpenSpec.upto shapeRunsSpec)) shapeRunsUptoCard

/-- THE SECOND FORM's CARD OF 'marcheslaw05.ShapeSame'. -/
def shapeSameUptoCard : Claim7 := { stood := { row := shapeSameUptoRow, standIns := [], harness := (true, "52fdc8f07acd3ba0ce6e1abfa26494d7ffed8dfddb12cc9de8c06834ee21ab88"), looks := false }, kinds := [], alts := [], laidByText := true, laidKinds := [.funcs], laidTests := true, laidLooks := .later }
def ShapeSameUptoCardSaid : Prop := Claim7.holds Tryd.pinned (.plain (OpenSpec.upto shapeSameSpec)) shapeSameUptoCard

/-- THE SECOND FORM's CARD OF 'marcheslaw05.ShapeGrows'. -/
def shapeGrowsUptoCard : Claim7 := { stood := { row := shapeGrowsUptoRow, standIns := [], harness := (true, "52fdc8f07acd3ba0ce6e1abfa26494d7ffed8dfddb12cc9de8c06834ee21ab88"), looks := false }, kinds := [], alts := [], laidByText := true, laidKinds := [.funcs], laidTests := true, laidLooks := .later }
def ShapeGrowsUptoCardSaid : Prop := Claim7.holds Tryd.pinned (.plain (OpenSpec.upto shapeGrowsSpec)) shapeGrowsUptoCard

/-- THE SECOND FORM's CARD OF 'marcheslaw05.ShapePoints'. -/
def shapePointsUptoCard : Claim7 := { stood := { row := shapePointsUptoRow, standIns := [], harness := (true, "52fdc8f07acd3ba0ce6e1abfa26494d7ffed8dfddb12cc9de8c06834ee21ab88"), looks := false }, kinds := [], alts := [], laidByText := true, laidKinds := [.funcs], laidTests := true, laidLooks := .later }
def ShapePointsUptoCardSaid : Prop := Claim7.holds Tryd.pinned (.plain (OpenSpec.upto shapePointsSpec)) shapePointsUptoCard

/-- THE SECOND FORM's CARD OF 'marcheslaw05.ShapeBounds'. -/
def shapeBoundsUptoCard : Claim7 := { stood := { row := shapeBoundsUptoRow, standIns := [], harness := (true, "52fdc8f07acd3ba0ce6e1abfa26494d7ffed8dfddb12cc9de8c06834ee21ab88"), looks := false }, kinds := [], alts := [], laidByText := true, laidKinds := [.funcs], laidTests := true, laidLooks := .later }
def ShapeBoundsUptoCardSaid : Prop := Claim7.holds Tryd.pinned (.plain (OpenSpec.upto shapeBoundsSpec)) shapeBoundsUptoCard

/-- THE SECOND FORM's CARD OF 'marcheslaw05.ShapeWrong'. -/
def shapeWrongUptoCard : Claim7 := { stood := { row := shapeWrongUptoRow, standIns := [], harness := (true, "52fdc8f07acd3ba0ce6e1abfa26494d7ffed8dfddb12cc9de8c06834ee21ab88"), looks := false }, kinds := [], alts := [], laidByText := true, laidKinds := [.funcs], laidTests := true, laidLooks := .later }
def ShapeWrongUptoCardSaid : Prop := Claim7.holds Tryd.pinned (.plain (OpenSpec.upto shapeWrongSpec)) shapeWrongUptoCard
end Rows
end Go.Proofs.YtggcfjeehpcclaaDoor
